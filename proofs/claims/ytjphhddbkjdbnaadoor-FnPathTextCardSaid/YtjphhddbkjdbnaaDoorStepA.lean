/- Own text: part StepA. -/
import Derived.Test.YtjphhddbkjdbnaaDoorTypes2
import Derived.Test.YtjphhddbkjdbnaaDoorTextA
import Derived.Test.YtjphhddbkjdbnaaDoorMarkA
import Derived.Test.YtjphhddbkjdbnaaDoorSegA
import Derived.Test.YtjphhddbkjdbnaaDoorShelf
import Derived.Test.YtjphhddbkjdbnaaDoorBaseE
import Derived.Test.YtjphhddbkjdbnaaDoorBaseF
set_option linter.unusedVariables false
set_option linter.unusedSimpArgs false
namespace Go.T90
set_option linter.unusedSectionVars false
variable [Go.Vg.Glob] [Go.Vg.GlobInt 0]
open Go.Proofs Go.Vg Go.RowKit Go.TT Go.Pl Go.T8 Go.T44 Go.T52 Go.TSh
set_option linter.unusedVariables false
set_option linter.unusedSimpArgs false
set_option maxRecDepth 10000
set_option maxHeartbeats 4000000
theorem decimal (n : Int) (hp : 0 ≤ n ∧ n ≤ 4294967295) : PF Tryd.prog 44 [.i .i64 n] (.s (dec n.toNat)) := by
  refine ⟨rfl, rfl, FnK.of (cf := mkCf Tryd.prog te [] 21 0 false (fun _ => false) (kp [(0, [0]), (1, [0, 3]), (2, [0, 3, 9]), (3, [0, 3]), (4, [0, 3]), (5, [2])]) [] []) (mkCf_ok te_ok (l := []) (trivial) mixed_ok) Tryd.func44 rfl rfl rfl (by simp [mkCf]) (by simp [mkCf]) (rs := [.tmp 2]) rfl 100000 ?_⟩
  simp only [↓XC, XV, entry, isStr, tdOf, szOf, zeroOf, TD.isStruct, okCell, cellsOf, SO.isMap, SO.sz, SO.el, SO.n, SO.ro, mkCf, quietOp, opClass, okLeaf, spl, cellV, isU8T, isSlS, fillS, fillP, repl, SO.put, SV.mapH, frzV, frzVL, frzOk, frzOkL, lendOk, SV.bit, bitL, SV.plain, plainL, isE, mapHL, strip, stripL, gok, gokL, forall_const, implies_true, reduceIte, Nat.reduceAdd, Nat.reduceLT, Nat.reduceEqDiff, Nat.reduceBEq, Nat.reduceLeDiff, reduceCtorEq, Nat.reduceSub, Nat.reduceMul, Int.reduceToNat, Int.reduceLT, Int.reduceLE, TES]
  refine VLoops.of (ι := {x : Nat × List UInt8 // (x.2 = [] ∧ x.1 = n.toNat) ∨ (x.2 ≠ [] ∧ DecInv n.toNat x.1 x.2)}) (fun x => ⟨[(0, .i .i64 (x.1.1 : Nat)), (3, .s x.1.2)], []⟩) (fun x => if x.1.2 = [] then x.1.1 + 1 else x.1.1) ⟨(n.toNat, []), .inl ⟨rfl, rfl⟩⟩ (by rw [show ((n.toNat : Nat) : Int) = n by omega]; exact Ent.refl _ _) ?_
  rintro ⟨⟨m, out⟩, hm⟩
  simp only [↓XC, XV, entry, isStr, tdOf, szOf, zeroOf, TD.isStruct, okCell, cellsOf, SO.isMap, SO.sz, SO.el, SO.n, SO.ro, mkCf, quietOp, opClass, okLeaf, spl, cellV, isU8T, isSlS, fillS, fillP, repl, SO.put, SV.mapH, frzV, frzVL, frzOk, frzOkL, lendOk, SV.bit, bitL, SV.plain, plainL, isE, mapHL, strip, stripL, gok, gokL, forall_const, implies_true, reduceIte, Nat.reduceAdd, Nat.reduceLT, Nat.reduceEqDiff, Nat.reduceBEq, Nat.reduceLeDiff, reduceCtorEq, Nat.reduceSub, Nat.reduceMul, Int.reduceToNat, Int.reduceLT, Int.reduceLE, TES]
  simp only at hm
  have e1 : (m : Int).tmod 10 = ((m % 10 : Nat) : Int) := tmod_nat m 10
  have e2 : (m : Int).tdiv 10 = ((m / 10 : Nat) : Int) := tdiv_nat m 10
  simp only [e1, e2]
  have e3 : ((48 : Int) + ((m % 10 : Nat) : Int)).toNat = 48 + m % 10 := by omega
  have hmk : m ≤ n.toNat := by rcases hm with h | h; omega; exact h.2.1
  have hl : out.length ≤ n.toNat + 1 := by
    rcases hm with h | h
    · rw [h.1]; simp
    · exact h.2.len
  refine ⟨fun hc => Chk.mk (by decide) fun _ => Chk.mk (by simp only [inR]; omega) fun _ => Chk.mk (by simp only [inR]; omega) fun _ => ⟨isU8_one, Chk.mk (by omega) fun _ => ⟨by decide, Chk.mk (by simp only [inR]; omega) fun _ => ?_⟩⟩, fun hc => ?_⟩
  · rw [e3]
    refine ⟨⟨(m / 10, UInt8.ofNat (48 + m % 10) :: out), .inr ⟨by simp, ?_⟩⟩, ?_, Ent.nil (by simp [entEnv, Vg.look, SV.mapH])⟩
    · rcases hm with ⟨h1, h2⟩ | ⟨h1, h2⟩
      · subst h1
        subst h2
        refine ⟨by omega, ?_⟩
        rw [dec_eq n.toNat]
        by_cases h9 : n.toNat < 10
        · rw [if_pos h9, if_pos (by omega), show n.toNat % 10 = n.toNat by omega]
        · rw [if_neg h9, if_neg (by omega)]
      · refine h2.step ?_
        simp only [Bool.or_eq_true, decide_eq_true_eq] at hc
        rcases hc with hc | hc
        · exact absurd hc h1
        · omega
    · simp only [reduceCtorEq, if_false]
      split
      · omega
      · rename_i h9
        simp only [Bool.or_eq_true, decide_eq_true_eq] at hc
        rcases hc with hc | hc
        · exact absurd hc h9
        · omega
  · simp only [Bool.or_eq_false_iff, decide_eq_false_iff_not] at hc
    rcases hm with ⟨h1, _⟩ | ⟨h1, h2⟩
    · exact absurd h1 hc.1
    · have := h2.2
      rw [if_pos (by omega)] at this
      rw [this]
noncomputable def pe_decimal : PE := peR (fun (n : Int) => [.i .i64 n]) (fun (n : Int) => 0 ≤ n ∧ n ≤ 4294967295) (fun (n : Int) => .s (dec n.toNat))
theorem pe_decimal_eq {n : Int} : pe_decimal [.i .i64 n] = some (0 ≤ n ∧ n ≤ 4294967295, .s (dec n.toNat)) := peR_eq (by rintro a b h; simp_all []) n
theorem pe_decimal_ok : PE1 Tryd.prog 44 pe_decimal := peR_ok (by rintro n hp; exact decimal n hp)
theorem NumText_i (n : Int) : PF Tryd.prog 34 [.i .i64 n] (.s (numW n)) := by
  refine ⟨rfl, rfl, FnK.of (cf := mkCf Tryd.prog te [(31, pe_within), (44, pe_decimal)] 8 0 false (fun _ => false) (kp [(0, [0]), (1, [0, 5]), (2, [2]), (3, [2])]) [] []) (mkCf_ok te_ok (l := [(31, pe_within), (44, pe_decimal)]) (⟨pe_within_ok, pe_decimal_ok, trivial⟩) mixed_ok) Tryd.func34 rfl rfl rfl (by simp [mkCf]) (by simp [mkCf]) (rs := [.tmp 2]) rfl 100000 ?_⟩
  simp only [↓XC, XV, entry, isStr, tdOf, szOf, zeroOf, TD.isStruct, okCell, cellsOf, SO.isMap, SO.sz, SO.el, SO.n, SO.ro, mkCf, quietOp, opClass, okLeaf, spl, cellV, isU8T, isSlS, fillS, fillP, repl, SO.put, SV.mapH, frzV, frzVL, frzOk, frzOkL, lendOk, SV.bit, bitL, SV.plain, plainL, isE, mapHL, strip, stripL, gok, gokL, forall_const, implies_true, reduceIte, Nat.reduceAdd, Nat.reduceLT, Nat.reduceEqDiff, Nat.reduceBEq, Nat.reduceLeDiff, reduceCtorEq, Nat.reduceSub, Nat.reduceMul, Int.reduceToNat, Int.reduceLT, Int.reduceLE, TES, pe_within_eq, pe_decimal_eq]
  unfold numW
  refine ⟨fun h => by rw [if_neg (by simp at h; omega)], fun h => ?_⟩
  have h2 : 0 ≤ n ∧ n ≤ 4294967295 := by simp at h; omega
  exact Chk.mk h2 fun _ => by rw [if_pos h2]
noncomputable def pe_NumText_i : PE := peR (fun (n : Int) => [.i .i64 n]) (fun (n : Int) => True) (fun (n : Int) => .s (numW n))
theorem pe_NumText_i_eq {n : Int} : pe_NumText_i [.i .i64 n] = some (True, .s (numW n)) := peR_eq (by rintro a b h; simp_all []) n
theorem pe_NumText_i_ok : PE1 Tryd.prog 34 pe_NumText_i := peR_ok (by rintro n hp; exact NumText_i n)
theorem isWord (b : UInt8) : PF Tryd.prog 45 [.i .u8 (b.toNat : Nat)] (.b (isW2 b)) := by
  refine ⟨rfl, rfl, FnK.of (cf := mkCf Tryd.prog te [] 29 0 false (fun _ => false) (kp [(0, [0]), (1, [2])]) [] []) (mkCf_ok te_ok (l := []) (trivial) mixed_ok) Tryd.func45 rfl rfl rfl (by simp [mkCf]) (by simp [mkCf]) (rs := [.tmp 2]) rfl 100000 ?_⟩
  simp only [↓XC, XV, entry, isStr, tdOf, szOf, zeroOf, TD.isStruct, okCell, cellsOf, SO.isMap, SO.sz, SO.el, SO.n, SO.ro, mkCf, quietOp, opClass, okLeaf, spl, cellV, isU8T, isSlS, fillS, fillP, repl, SO.put, SV.mapH, frzV, frzVL, frzOk, frzOkL, lendOk, SV.bit, bitL, SV.plain, plainL, isE, mapHL, strip, stripL, gok, gokL, forall_const, implies_true, reduceIte, Nat.reduceAdd, Nat.reduceLT, Nat.reduceEqDiff, Nat.reduceBEq, Nat.reduceLeDiff, reduceCtorEq, Nat.reduceSub, Nat.reduceMul, Int.reduceToNat, Int.reduceLT, Int.reduceLE, TES]
  simp only [SV.b.injEq]
  unfold isW2
  rw [Bool.eq_iff_iff]
  simp only [Bool.or_eq_true, Bool.and_eq_true, decide_eq_true_eq]
  omega
noncomputable def pe_isWord : PE := peR (fun (b : UInt8) => [.i .u8 (b.toNat : Nat)]) (fun (b : UInt8) => True) (fun (b : UInt8) => .b (isW2 b))
theorem pe_isWord_eq {b : UInt8} : pe_isWord [.i .u8 (b.toNat : Nat)] = some (True, .b (isW2 b)) := peR_eq (by rintro a b h; simp_all [Int.ofNat_inj, UInt8.toNat_inj]) b
theorem pe_isWord_ok : PE1 Tryd.prog 45 pe_isWord := peR_ok (by rintro b hp; exact isWord b)
theorem isBare (s : Bs) (hp : s.length ≤ 1048576) : PF Tryd.prog 35 [.s s] (.b (bare s)) := by
  refine ⟨rfl, rfl, FnK.of (cf := mkCf Tryd.prog te [(45, pe_isWord)] 33 0 false (fun _ => false) (kp [(0, [0]), (1, [0, 15]), (2, [2]), (3, [0, 17, 18]), (4, [0, 17, 18, 19]), (5, [0, 3, 17, 18]), (6, [0, 17, 18, 31]), (7, [2]), (8, [0, 17, 18]), (9, [2])]) [] []) (mkCf_ok te_ok (l := [(45, pe_isWord)]) (⟨pe_isWord_ok, trivial⟩) mixed_ok) Tryd.func35 rfl rfl rfl (by simp [mkCf]) (by simp [mkCf]) (rs := [.tmp 2]) rfl 100000 ?_⟩
  simp only [↓XC, XV, entry, isStr, tdOf, szOf, zeroOf, TD.isStruct, okCell, cellsOf, SO.isMap, SO.sz, SO.el, SO.n, SO.ro, mkCf, quietOp, opClass, okLeaf, spl, cellV, isU8T, isSlS, fillS, fillP, repl, SO.put, SV.mapH, frzV, frzVL, frzOk, frzOkL, lendOk, SV.bit, bitL, SV.plain, plainL, isE, mapHL, strip, stripL, gok, gokL, forall_const, implies_true, reduceIte, Nat.reduceAdd, Nat.reduceLT, Nat.reduceEqDiff, Nat.reduceBEq, Nat.reduceLeDiff, reduceCtorEq, Nat.reduceSub, Nat.reduceMul, Int.reduceToNat, Int.reduceLT, Int.reduceLE, TES, pe_isWord_eq]
  have hl0 : s ≠ [] → 0 < s.length := fun h => List.length_pos_iff.2 h
  have hD : isDg (s.getD 0 0) = (decide (((s.getD 0 0).toNat : Int) ≥ 48) && decide (((s.getD 0 0).toNat : Int) ≤ 57)) := by
    unfold isDg
    rw [Bool.eq_iff_iff]
    simp only [Bool.and_eq_true, decide_eq_true_eq]
    omega
  refine Chk.mk (fun h => by have := hl0 (by simpa using h); omega) fun _ => Chk.mk (fun h => by have := hl0 (by simp at h; exact h.1); omega) fun _ => ⟨fun h => ?_, fun h => ?_⟩
  · rw [← hD] at h
    have : bare s = false := by
      unfold bare
      by_cases h9 : s = []
      · simp [h9]
      · simp only [h9, decide_false, Bool.false_or] at h
        rw [h, Bool.not_true, Bool.and_false, Bool.false_and]
    rw [this]
  rw [← hD] at h
  have h9 : s ≠ [] ∧ isDg (s.getD 0 0) = false := by simpa using h
  refine VLoops.of (ι := {i : Nat // i ≤ s.length ∧ ∀ j, j < i → (isWB (s.getD j 0) || isDg (s.getD j 0)) = true}) (fun x => ⟨[(0, .s s), (17, .i .i64 (s.length : Nat)), (18, .i .i64 (x.1 : Nat))], []⟩) (fun x => s.length - x.1) ⟨0, Nat.zero_le _, fun j hj => absurd hj (Nat.not_lt_zero _)⟩ (Ent.refl _ _) ?_
  rintro ⟨i, hi, hj⟩
  simp only [↓XC, XV, entry, isStr, tdOf, szOf, zeroOf, TD.isStruct, okCell, cellsOf, SO.isMap, SO.sz, SO.el, SO.n, SO.ro, mkCf, quietOp, opClass, okLeaf, spl, cellV, isU8T, isSlS, fillS, fillP, repl, SO.put, SV.mapH, frzV, frzVL, frzOk, frzOkL, lendOk, SV.bit, bitL, SV.plain, plainL, isE, mapHL, strip, stripL, gok, gokL, forall_const, implies_true, reduceIte, Nat.reduceAdd, Nat.reduceLT, Nat.reduceEqDiff, Nat.reduceBEq, Nat.reduceLeDiff, reduceCtorEq, Nat.reduceSub, Nat.reduceMul, Int.reduceToNat, Int.reduceLT, Int.reduceLE, TES, pe_isWord_eq]
  have hW : ∀ c : UInt8, (isWB c || isDg c) = (isW2 c || decide ((c.toNat : Int) = 95)) := fun c => by
    unfold isWB isDg isW2
    rw [Bool.eq_iff_iff]
    simp only [Bool.or_eq_true, decide_eq_true_eq]
    omega
  refine ⟨fun hl => Chk.mk (by omega) fun _ => Chk.mk (fun _ => by omega) fun _ => ⟨fun hb => ?_, fun hb => Chk.mk (by simp only [inR]; omega) fun _ => ⟨⟨i + 1, by omega, fun j hjj => ?_⟩, by simp only; omega, Ent.refl _ _⟩⟩, fun hl => ?_⟩
  · have hc : (isWB (s.getD i 0) || isDg (s.getD i 0)) = false := by
      rw [hW, Bool.or_eq_false_iff]
      simpa using hb
    have : bare s = false := by
      unfold bare
      have : (s.all fun c => isWB c || isDg c) = false := by
        rw [List.all_eq_false]
        exact ⟨_, getD_mem (z := 0) (by omega : i < s.length), by rw [hc]; simp⟩
      rw [this, Bool.and_false]
    rw [this]
  · rcases Nat.lt_or_ge j i with h1 | h1
    · exact hj j h1
    · have : j = i := by omega
      subst this
      rw [hW]
      cases h2 : isW2 (s.getD j 0) with
      | true => simp
      | false => rw [h2] at hb; simpa using hb
  · have : bare s = true := by
      unfold bare
      have ha : (s.all fun c => isWB c || isDg c) = true := by
        rw [List.all_eq_true]
        intro c hc
        obtain ⟨j, hjl, rfl⟩ := List.getElem_of_mem hc
        have := hj j (by omega)
        rwa [List.getD_eq_getElem?_getD, List.getElem?_eq_getElem hjl] at this
      rw [ha, h9.2]
      simp [h9.1]
    rw [this]
noncomputable def pe_isBare : PE := peR (fun (s : Bs) => [.s s]) (fun (s : Bs) => s.length ≤ 1048576) (fun (s : Bs) => .b (bare s))
theorem pe_isBare_eq {s : Bs} : pe_isBare [.s s] = some (s.length ≤ 1048576, .b (bare s)) := peR_eq (by rintro a b h; simp_all []) s
theorem pe_isBare_ok : PE1 Tryd.prog 35 pe_isBare := peR_ok (by rintro s hp; exact isBare s hp)
theorem segsOk (l : List Sg) (hp : l.length ≤ 1048576) : PF Tryd.prog 23 [.fs 3 (l.map segc)] (.b (sgsOk l)) := by
  refine ⟨rfl, rfl, FnK.of (cf := mkCf Tryd.prog te [(13, pe_SegOk_i)] 15 0 false (fun _ => false) (kp [(0, [0]), (1, [5, 6, 7]), (2, [5, 6, 7, 8]), (3, [4, 5, 6, 7]), (4, [5, 6, 7, 13]), (5, [2]), (6, [5, 6, 7]), (7, [2])]) [] []) (mkCf_ok te_ok (l := [(13, pe_SegOk_i)]) (⟨pe_SegOk_i_ok, trivial⟩) mixed_ok) Tryd.func23 rfl rfl rfl (by simp [mkCf]) (by simp [mkCf]) (rs := [.tmp 2]) rfl 100000 ?_⟩
  simp only [↓XC, XV, entry, isStr, tdOf, szOf, zeroOf, TD.isStruct, okCell, cellsOf, SO.isMap, SO.sz, SO.el, SO.n, SO.ro, mkCf, quietOp, opClass, okLeaf, spl, cellV, isU8T, isSlS, fillS, fillP, repl, SO.put, SV.mapH, frzV, frzVL, frzOk, frzOkL, lendOk, SV.bit, bitL, SV.plain, plainL, isE, mapHL, strip, stripL, gok, gokL, forall_const, implies_true, reduceIte, Nat.reduceAdd, Nat.reduceLT, Nat.reduceEqDiff, Nat.reduceBEq, Nat.reduceLeDiff, reduceCtorEq, Nat.reduceSub, Nat.reduceMul, Int.reduceToNat, Int.reduceLT, Int.reduceLE, TES, pe_SegOk_i_eq, XRS]
  refine VLoops.of (ι := {i : Nat // i ≤ l.length ∧ (l.take i).all sgOk = true}) (fun x => ⟨[(5, .fs 3 (l.map segc)), (6, .i .i64 (l.length : Nat)), (7, .i .i64 (x.1 : Nat))], []⟩) (fun x => l.length - x.1) ⟨0, Nat.zero_le _, by simp⟩ (Ent.refl _ _) ?_
  rintro ⟨i, hi, hj⟩
  simp only [↓XC, XV, entry, isStr, tdOf, szOf, zeroOf, TD.isStruct, okCell, cellsOf, SO.isMap, SO.sz, SO.el, SO.n, SO.ro, mkCf, quietOp, opClass, okLeaf, spl, cellV, isU8T, isSlS, fillS, fillP, repl, SO.put, SV.mapH, frzV, frzVL, frzOk, frzOkL, lendOk, SV.bit, bitL, SV.plain, plainL, isE, mapHL, strip, stripL, gok, gokL, forall_const, implies_true, reduceIte, Nat.reduceAdd, Nat.reduceLT, Nat.reduceEqDiff, Nat.reduceBEq, Nat.reduceLeDiff, reduceCtorEq, Nat.reduceSub, Nat.reduceMul, Int.reduceToNat, Int.reduceLT, Int.reduceLE, TES, pe_SegOk_i_eq, XRS]
  refine ⟨fun hl => Chk.mk (by omega) fun _ => ⟨fun h => ?_, fun h => Chk.mk (by simp only [inR]; omega) fun _ => ⟨⟨i + 1, by omega, ?_⟩, by simp only; omega, (by (try simp only [Int.natCast_add, Int.natCast_one]); exact Ent.nil (by simp [entEnv, Vg.look, SV.mapH]))⟩⟩, fun hl => ?_⟩
  · have : sgsOk l = false := by
      unfold sgsOk
      rw [List.all_eq_false]
      exact ⟨_, getD_mem (z := sgz) (by omega : i < l.length), by simpa using h⟩
    rw [this]
  · rw [take_snoc sgz (by omega), List.all_append, hj]
    simpa using h
  · rw [show i = l.length by omega, List.take_length] at hj
    rw [sgsOk, hj]
noncomputable def pe_segsOk : PE := peR (fun (l : List Sg) => [.fs 3 (l.map segc)]) (fun (l : List Sg) => l.length ≤ 1048576) (fun (l : List Sg) => .b (sgsOk l))
theorem pe_segsOk_eq {l : List Sg} : pe_segsOk [.fs 3 (l.map segc)] = some (l.length ≤ 1048576, .b (sgsOk l)) := peR_eq (by rintro a b h; simp_all [segc_inj]) l
theorem pe_segsOk_ok : PE1 Tryd.prog 23 pe_segsOk := peR_ok (by rintro l hp; exact segsOk l hp)
theorem segText (k n : Int) (x : Bs) (hp : x.length ≤ 1048576) : PF Tryd.prog 24 [.agg [.i .i64 k, .i .i64 n, .s x]] (.s (segT ⟨k, n, x⟩)) := by
  refine ⟨rfl, rfl, FnK.of (cf := mkCf Tryd.prog te [(34, pe_NumText_i), (35, pe_isBare), (36, pe_rplAS)] 30 0 false (fun _ => false) (kp [(0, [1]), (1, [1, 4]), (2, [1, 4, 5]), (3, [2]), (4, [1, 4, 10]), (5, [2]), (6, [1, 4, 16]), (7, [2]), (8, [1, 18]), (9, [2]), (10, [1, 22]), (11, [2]), (12, [2])]) [] []) (mkCf_ok te_ok (l := [(34, pe_NumText_i), (35, pe_isBare), (36, pe_rplAS)]) (⟨pe_NumText_i_ok, pe_isBare_ok, pe_rplAS_ok, trivial⟩) mixed_ok) Tryd.func24 rfl rfl rfl (by simp [mkCf]) (by simp [mkCf]) (rs := [.tmp 2]) rfl 100000 ?_⟩
  simp only [↓XC, XV, entry, isStr, tdOf, szOf, zeroOf, TD.isStruct, okCell, cellsOf, SO.isMap, SO.sz, SO.el, SO.n, SO.ro, mkCf, quietOp, opClass, okLeaf, spl, cellV, isU8T, isSlS, fillS, fillP, repl, SO.put, SV.mapH, frzV, frzVL, frzOk, frzOkL, lendOk, SV.bit, bitL, SV.plain, plainL, isE, mapHL, strip, stripL, gok, gokL, forall_const, implies_true, reduceIte, Nat.reduceAdd, Nat.reduceLT, Nat.reduceEqDiff, Nat.reduceBEq, Nat.reduceLeDiff, reduceCtorEq, Nat.reduceSub, Nat.reduceMul, Int.reduceToNat, Int.reduceLT, Int.reduceLE, TES, pe_NumText_i_eq, pe_isBare_eq, pe_rplAS_eq]
  unfold segT
  have h1 := numW_len n
  have h2 := dbl_length x
  simp only []
  refine ⟨fun h1 => by rw [if_pos h1], fun h1 => ⟨fun h3 => Chk.mk (by omega) fun _ => by rw [if_neg h1, if_pos h3], fun h3 => ⟨fun h4 => by rw [if_neg h1, if_neg h3, if_pos h4], fun h4 => ⟨fun h5 => by rw [if_neg h1, if_neg h3, if_neg h4, if_pos h5], fun h5 => Chk.mk hp fun _ => ⟨fun hb => by rw [if_neg h1, if_neg h3, if_neg h4, if_neg h5, if_pos hb], fun hb => Chk.mk ⟨by omega, by omega⟩ fun _ => ?_⟩⟩⟩⟩⟩
  rw [rplA_dbl]
  exact Chk.mk (by omega) fun _ => Chk.mk (by omega) fun _ => by rw [if_neg h1, if_neg h3, if_neg h4, if_neg h5, if_neg (by simp [hb])]
noncomputable def pe_segText : PE := peR (fun (x : Int × Int × Bs) => match x with | (k, n, x) => [.agg [.i .i64 k, .i .i64 n, .s x]]) (fun (x : Int × Int × Bs) => match x with | (k, n, x) => x.length ≤ 1048576) (fun (x : Int × Int × Bs) => match x with | (k, n, x) => .s (segT ⟨k, n, x⟩))
theorem pe_segText_eq {k n : Int} {x : Bs} : pe_segText [.agg [.i .i64 k, .i .i64 n, .s x]] = some (x.length ≤ 1048576, .s (segT ⟨k, n, x⟩)) := peR_eq (by rintro ⟨a0, a1, a2⟩ ⟨b0, b1, b2⟩ h; simp_all []) (k, n, x)
theorem pe_segText_ok : PE1 Tryd.prog 24 pe_segText := peR_ok (by rintro ⟨k, n, x⟩ hp; exact segText k n x hp)
end Go.T90
