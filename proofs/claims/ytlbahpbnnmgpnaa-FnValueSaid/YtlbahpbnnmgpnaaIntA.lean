/- Own text: part IntA. -/
import Derived.Test.YtlbahpbnnmgpnaaTypes2
namespace Go.T6
open Go.Proofs Go.Vg Go.RowKit Go.TT
set_option linter.unusedVariables false
set_option linter.unusedSimpArgs false
set_option maxRecDepth 10000
set_option maxHeartbeats 4000000
theorem within (x lo hi : Int) : PF Try.prog 57 [.i .i64 x, .i .i64 lo, .i .i64 hi] (.b (decide (lo ≤ x) && decide (x ≤ hi))) := by
  refine ⟨rfl, rfl, FnK.of (cf := mkCf Try.prog te [] 15 0 false (fun _ => false) (kp [(0, [0, 1, 2]), (1, [6])]) [] []) (mkCf_ok te_ok (l := []) (trivial) mixed_ok) Try.func57 rfl rfl rfl (by simp [mkCf]) (by simp [mkCf]) (rs := [.tmp 6]) rfl 100000 ?_⟩
  simp only [↓XC, XV, entry, isStr, tdOf, szOf, zeroOf, TD.isStruct, okCell, cellsOf, SO.isMap, SO.sz, SO.el, SO.n, SO.ro, mkCf, quietOp, opClass, okLeaf, spl, cellV, isU8T, isSlS, fillS, fillP, repl, SO.put, SV.mapH, frzV, frzVL, frzOk, frzOkL, lendOk, SV.bit, bitL, SV.plain, plainL, isE, mapHL, strip, stripL, gok, gokL, forall_const, implies_true, reduceIte, Nat.reduceAdd, Nat.reduceLT, Nat.reduceEqDiff, Nat.reduceBEq, Nat.reduceLeDiff, reduceCtorEq, Nat.reduceSub, Nat.reduceMul, Int.reduceToNat, Int.reduceLT, Int.reduceLE, TES]

noncomputable def pe_within : PE := peR (fun (x : Int × Int × Int) => match x with | (x, lo, hi) => [.i .i64 x, .i .i64 lo, .i .i64 hi]) (fun (x : Int × Int × Int) => match x with | (x, lo, hi) => True) (fun (x : Int × Int × Int) => match x with | (x, lo, hi) => .b (decide (lo ≤ x) && decide (x ≤ hi)))
theorem pe_within_eq {x lo hi : Int} : pe_within [.i .i64 x, .i .i64 lo, .i .i64 hi] = some (True, .b (decide (lo ≤ x) && decide (x ≤ hi))) := peR_eq (by rintro ⟨a0, a1, a2⟩ ⟨b0, b1, b2⟩ h; simp_all []) (x, lo, hi)
theorem pe_within_ok : PE1 Try.prog 57 pe_within := peR_ok (by rintro ⟨x, lo, hi⟩ hp; exact within x lo hi)
def spot (s : List UInt8) (p : Int) : Int := if p < 0 then 0 else if p > s.length then s.length else p
theorem spot_ok (s : List UInt8) (p : Int) : PF Try.prog 78 [.s s, .i .i64 p] (.i .i64 (spot s p)) := by
  refine ⟨rfl, rfl, FnK.of (cf := mkCf Try.prog te [] 10 0 false (fun _ => false) (kp [(0, [0, 1]), (1, [4])]) [] []) (mkCf_ok te_ok (l := []) (trivial) mixed_ok) Try.func78 rfl rfl rfl (by simp [mkCf]) (by simp [mkCf]) (rs := [.tmp 4]) rfl 100000 ?_⟩
  simp only [↓XC, XV, entry, isStr, tdOf, szOf, zeroOf, TD.isStruct, okCell, cellsOf, SO.isMap, SO.sz, SO.el, SO.n, SO.ro, mkCf, quietOp, opClass, okLeaf, spl, cellV, isU8T, isSlS, fillS, fillP, repl, SO.put, SV.mapH, frzV, frzVL, frzOk, frzOkL, lendOk, SV.bit, bitL, SV.plain, plainL, isE, mapHL, strip, stripL, gok, gokL, forall_const, implies_true, reduceIte, Nat.reduceAdd, Nat.reduceLT, Nat.reduceEqDiff, Nat.reduceBEq, Nat.reduceLeDiff, reduceCtorEq, Nat.reduceSub, Nat.reduceMul, Int.reduceToNat, Int.reduceLT, Int.reduceLE, TES]
  unfold spot
  simp only [SV.i.injEq, true_and]
  grind
noncomputable def pe_spot_ok : PE := peR (fun (x : List UInt8 × Int) => match x with | (s, p) => [.s s, .i .i64 p]) (fun (x : List UInt8 × Int) => match x with | (s, p) => True) (fun (x : List UInt8 × Int) => match x with | (s, p) => .i .i64 (spot s p))
theorem pe_spot_ok_eq {s : List UInt8} {p : Int} : pe_spot_ok [.s s, .i .i64 p] = some (True, .i .i64 (spot s p)) := peR_eq (by rintro ⟨a0, a1⟩ ⟨b0, b1⟩ h; simp_all []) (s, p)
theorem pe_spot_ok_ok : PE1 Try.prog 78 pe_spot_ok := peR_ok (by rintro ⟨s, p⟩ hp; exact spot_ok s p)
def byteAt (s : List UInt8) (p : Int) : Int := if spot s p = s.length then -1 else ((s.getD (spot s p).toNat 0).toNat : Int)
theorem byteAt_ok (s : List UInt8) (p : Int) (hp : s.length ≤ 1048576) : PF Try.prog 103 [.s s, .i .i64 p] (.i .i64 (byteAt s p)) := by
  refine ⟨rfl, rfl, FnK.of (cf := mkCf Try.prog te [(78, pe_spot_ok)] 16 0 false (fun _ => false) (kp [(0, [0, 1]), (1, [0, 1]), (2, [0, 1, 11]), (3, [4]), (4, [4])]) [] []) (mkCf_ok te_ok (l := [(78, pe_spot_ok)]) (⟨pe_spot_ok_ok, trivial⟩) mixed_ok) Try.func103 rfl rfl rfl (by simp [mkCf]) (by simp [mkCf]) (rs := [.tmp 4]) rfl 100000 ?_⟩
  simp only [↓XC, XV, entry, isStr, tdOf, szOf, zeroOf, TD.isStruct, okCell, cellsOf, SO.isMap, SO.sz, SO.el, SO.n, SO.ro, mkCf, quietOp, opClass, okLeaf, spl, cellV, isU8T, isSlS, fillS, fillP, repl, SO.put, SV.mapH, frzV, frzVL, frzOk, frzOkL, lendOk, SV.bit, bitL, SV.plain, plainL, isE, mapHL, strip, stripL, gok, gokL, forall_const, implies_true, reduceIte, Nat.reduceAdd, Nat.reduceLT, Nat.reduceEqDiff, Nat.reduceBEq, Nat.reduceLeDiff, reduceCtorEq, Nat.reduceSub, Nat.reduceMul, Int.reduceToNat, Int.reduceLT, Int.reduceLE, TES, pe_spot_ok_eq]
  have hb := (s.getD (spot s p).toNat 0).toNat_lt
  have hs : 0 ≤ spot s p ∧ spot s p ≤ s.length := by unfold spot; grind
  refine ⟨fun h => by unfold byteAt; rw [if_pos h], fun h => Chk.mk (by omega) fun _ => Chk.mk (by simp only [inR]; omega) fun _ => by unfold byteAt; rw [if_neg h]⟩
noncomputable def pe_byteAt_ok : PE := peR (fun (x : List UInt8 × Int) => match x with | (s, p) => [.s s, .i .i64 p]) (fun (x : List UInt8 × Int) => match x with | (s, p) => s.length ≤ 1048576) (fun (x : List UInt8 × Int) => match x with | (s, p) => .i .i64 (byteAt s p))
theorem pe_byteAt_ok_eq {s : List UInt8} {p : Int} : pe_byteAt_ok [.s s, .i .i64 p] = some (s.length ≤ 1048576, .i .i64 (byteAt s p)) := peR_eq (by rintro ⟨a0, a1⟩ ⟨b0, b1⟩ h; simp_all []) (s, p)
theorem pe_byteAt_ok_ok : PE1 Try.prog 103 pe_byteAt_ok := peR_ok (by rintro ⟨s, p⟩ hp; exact byteAt_ok s p hp)
def hex1 (b : Int) : Option Int := if 48 ≤ b ∧ b ≤ 57 then some (b - 48) else if 97 ≤ b ∧ b ≤ 102 then some (b - 87) else if 65 ≤ b ∧ b ≤ 70 then some (b - 55) else none
def hexGo (s : List UInt8) : Nat → Int → Int → Option Int
  | 0, _, n => some n
  | k + 1, p, n => match hex1 (byteAt s p) with
    | some d => hexGo s k (p + 1) (16 * n + d)
    | none => none
def hexV (s : List UInt8) (p many : Int) : Option Int := hexGo s many.toNat p 0
theorem hex1_range {b d : Int} (h : hex1 b = some d) : 0 ≤ d ∧ d < 16 := by unfold hex1 at h; grind
theorem hexValue (s : List UInt8) (p many : Int) (hp : s.length ≤ 1048576 ∧ -1048576 ≤ p ∧ p ≤ 1048576 ∧ 0 ≤ many ∧ many ≤ 8) : PF Try.prog 97 [.s s, .i .i64 p, .i .i64 many] (.tup [.i .i64 ((hexV s p many).getD 0), .b (hexV s p many).isSome]) := by
  refine ⟨rfl, rfl, FnK.of (cf := mkCf Try.prog te [(103, pe_byteAt_ok), (57, pe_within)] 48 0 false (fun _ => false) (kp [(0, [0, 1, 2]), (1, [0, 1, 2, 8]), (2, [0, 1, 8, 11, 12]), (3, [0, 1, 8, 11, 12, 13]), (4, [0, 1, 8, 9, 11, 12]), (5, [0, 1, 8, 10, 11, 12]), (6, [6, 7]), (7, [0, 1, 8, 10, 11, 12, 20]), (8, [0, 1, 8, 11, 12]), (9, [0, 1, 8, 10, 11, 12, 28]), (10, [0, 1, 8, 11, 12]), (11, [0, 1, 8, 10, 11, 12, 37]), (12, [0, 1, 8, 11, 12]), (13, [0, 1, 8, 11, 12]), (14, [6, 7])]) [] []) (mkCf_ok te_ok (l := [(103, pe_byteAt_ok), (57, pe_within)]) (⟨pe_byteAt_ok_ok, pe_within_ok, trivial⟩) mixed_ok) Try.func97 rfl rfl rfl (by simp [mkCf]) (by simp [mkCf]) (rs := [.tmp 6, .tmp 7]) rfl 100000 ?_⟩
  simp only [↓XC, XV, entry, isStr, tdOf, szOf, zeroOf, TD.isStruct, okCell, cellsOf, SO.isMap, SO.sz, SO.el, SO.n, SO.ro, mkCf, quietOp, opClass, okLeaf, spl, cellV, isU8T, isSlS, fillS, fillP, repl, SO.put, SV.mapH, frzV, frzVL, frzOk, frzOkL, lendOk, SV.bit, bitL, SV.plain, plainL, isE, mapHL, strip, stripL, gok, gokL, forall_const, implies_true, reduceIte, Nat.reduceAdd, Nat.reduceLT, Nat.reduceEqDiff, Nat.reduceBEq, Nat.reduceLeDiff, reduceCtorEq, Nat.reduceSub, Nat.reduceMul, Int.reduceToNat, Int.reduceLT, Int.reduceLE, TES, pe_byteAt_ok_eq, pe_within_eq]
  refine VLoops.of (ι := {q : Nat × Int // (q.1 : Int) ≤ many ∧ 0 ≤ q.2 ∧ q.2 < 16 ^ q.1 ∧ hexGo s (many.toNat - q.1) (p + q.1) q.2 = hexV s p many}) (fun q => ⟨[(0, .s s), (1, .i .i64 p), (8, .i .i64 q.1.2), (11, .i .i64 many), (12, .i .i64 q.1.1)], []⟩) (fun q => many.toNat - q.1.1) ⟨(0, 0), by simp; omega, by simp, by simp, by simp [hexV]⟩ (Ent.refl _ _) ?_
  rintro ⟨⟨i, n⟩, h1, h2, h3, h4⟩
  simp only at h1 h2 h3 h4
  simp only [↓XC, XV, entry, isStr, tdOf, szOf, zeroOf, TD.isStruct, okCell, cellsOf, SO.isMap, SO.sz, SO.el, SO.n, SO.ro, mkCf, quietOp, opClass, okLeaf, spl, cellV, isU8T, isSlS, fillS, fillP, repl, SO.put, SV.mapH, frzV, frzVL, frzOk, frzOkL, lendOk, SV.bit, bitL, SV.plain, plainL, isE, mapHL, strip, stripL, gok, gokL, forall_const, implies_true, reduceIte, Nat.reduceAdd, Nat.reduceLT, Nat.reduceEqDiff, Nat.reduceBEq, Nat.reduceLeDiff, reduceCtorEq, Nat.reduceSub, Nat.reduceMul, Int.reduceToNat, Int.reduceLT, Int.reduceLE, TES, pe_byteAt_ok_eq, pe_within_eq]
  have hstep : (i : Int) < many → hexGo s (many.toNat - i) (p + i) n = match hex1 (byteAt s (p + i)) with
      | some d => hexGo s (many.toNat - (i + 1)) (p + i + 1) (16 * n + d)
      | none => none := by
    intro hi
    rw [show many.toNat - i = (many.toNat - (i + 1)) + 1 from by omega]
    rfl
  have hpow : (i : Int) < many → (16 : Int) ^ i ≤ 268435456 := by
    intro hi
    have h7 : i ≤ 7 := by omega
    have : (16 : Nat) ^ i ≤ 16 ^ 7 := Nat.pow_le_pow_right (by decide) h7
    have h3 : (16 : Nat) ^ 7 = 268435456 := by decide
    rw [h3] at this
    have h2 : ((16 ^ i : Nat) : Int) ≤ 268435456 := by omega
    rw [Int.natCast_pow] at h2
    exact h2
  have next : ∀ (d v : Int), (i : Int) < many → hex1 (byteAt s (p + i)) = some d → v = 16 * n + d → ∃ j : {q : Nat × Int // (q.1 : Int) ≤ many ∧ 0 ≤ q.2 ∧ q.2 < 16 ^ q.1 ∧ hexGo s (many.toNat - q.1) (p + q.1) q.2 = hexV s p many},
      many.toNat - j.val.1 < many.toNat - i ∧ Ent 0 ⟨[(0, .s s), (1, .i .i64 p), (8, .i .i64 v), (11, .i .i64 many), (12, .i .i64 ((i : Int) + 1))], []⟩ ⟨[(0, .s s), (1, .i .i64 p), (8, .i .i64 j.val.2), (11, .i .i64 many), (12, .i .i64 j.val.1)], []⟩ := by
    intro d v hi hd hv
    obtain ⟨d1, d2⟩ := hex1_range hd
    have hs := hstep hi
    rw [hd] at hs
    simp only at hs
    refine ⟨⟨(i + 1, 16 * n + d), by simp only; omega, by simp only; omega, ?_, ?_⟩, by simp only; omega, ?_⟩
    · simp only
      rw [Int.pow_succ]
      omega
    · simp only
      rw [← h4, hs]
      congr 1
      omega
    · subst hv
      simp only [Int.natCast_add]
      exact Ent.refl _ _
  have hx : ∀ b : Int, hex1 b = if 48 ≤ b ∧ b ≤ 57 then some (b - 48) else if 97 ≤ b ∧ b ≤ 102 then some (b - 87) else if 65 ≤ b ∧ b ≤ 70 then some (b - 55) else none := fun b => rfl
  generalize hb : byteAt s (p + i) = b at *
  refine ⟨fun hi => ?_, fun hi => ?_⟩
  · have h16 := hpow hi
    refine Chk.mk (by simp only [inR]; omega) fun _ => Chk.mk (by omega) fun _ => ⟨fun c1 => ?_, fun c1 => ⟨fun c2 => ?_, fun c2 => ⟨fun c3 => ?_, fun c3 => ?_⟩⟩⟩
    · simp only [Bool.and_eq_true, decide_eq_true_eq, Bool.and_eq_false_iff, decide_eq_false_iff_not] at c1
      repeat (refine Chk.mk (by simp only [inR]; omega) fun _ => ?_)
      exact next (b - 48) _ hi (by rw [hx, if_pos c1]) (by omega)
    · simp only [Bool.and_eq_true, decide_eq_true_eq, Bool.and_eq_false_iff, decide_eq_false_iff_not] at c1 c2
      repeat (refine Chk.mk (by simp only [inR]; omega) fun _ => ?_)
      exact next (b - 87) _ hi (by rw [hx, if_neg (by omega), if_pos c2]) (by omega)
    · simp only [Bool.and_eq_true, decide_eq_true_eq, Bool.and_eq_false_iff, decide_eq_false_iff_not] at c1 c2 c3
      repeat (refine Chk.mk (by simp only [inR]; omega) fun _ => ?_)
      exact next (b - 55) _ hi (by rw [hx, if_neg (by omega), if_neg (by omega), if_pos c3]) (by omega)
    · simp only [Bool.and_eq_true, decide_eq_true_eq, Bool.and_eq_false_iff, decide_eq_false_iff_not] at c1 c2 c3
      have hs := hstep hi
      rw [hx, if_neg (by omega), if_neg (by omega), if_neg (by omega)] at hs
      rw [← h4, hs]
      rfl
  · have : many.toNat - i = 0 := by omega
    rw [this] at h4
    rw [← h4]
    rfl
noncomputable def pe_hexValue : PE := peR (fun (x : List UInt8 × Int × Int) => match x with | (s, p, many) => [.s s, .i .i64 p, .i .i64 many]) (fun (x : List UInt8 × Int × Int) => match x with | (s, p, many) => s.length ≤ 1048576 ∧ -1048576 ≤ p ∧ p ≤ 1048576 ∧ 0 ≤ many ∧ many ≤ 8) (fun (x : List UInt8 × Int × Int) => match x with | (s, p, many) => .tup [.i .i64 ((hexV s p many).getD 0), .b (hexV s p many).isSome])
theorem pe_hexValue_eq {s : List UInt8} {p many : Int} : pe_hexValue [.s s, .i .i64 p, .i .i64 many] = some (s.length ≤ 1048576 ∧ -1048576 ≤ p ∧ p ≤ 1048576 ∧ 0 ≤ many ∧ many ≤ 8, .tup [.i .i64 ((hexV s p many).getD 0), .b (hexV s p many).isSome]) := peR_eq (by rintro ⟨a0, a1, a2⟩ ⟨b0, b1, b2⟩ h; simp_all []) (s, p, many)
theorem pe_hexValue_ok : PE1 Try.prog 97 pe_hexValue := peR_ok (by rintro ⟨s, p, many⟩ hp; exact hexValue s p many hp)
def digGo (s : List UInt8) (base : Int) : Nat → Int → Int → Option Int
  | 0, _, n => some n
  | k + 1, i, n => match hex1 (byteAt s i) with
    | some d => if base ≤ d then none else if n * base + d > 9007199254740991 then none else digGo s base k (i + 1) (n * base + d)
    | none => none
def digV (s : List UInt8) (base : Int) : Option Int := digGo s base s.length 0 0
theorem digitsOf (s : List UInt8) (base : Int) (hp : s.length ≤ 1048576 ∧ (base = 8 ∨ base = 10 ∨ base = 16)) : PF Try.prog 64 [.s s, .i .i64 base] (.tup [.i .i64 ((digV s base).getD 0), .b ((digV s base).isSome && decide (s ≠ []))]) := by
  refine ⟨rfl, rfl, FnK.of (cf := mkCf Try.prog te [(97, pe_hexValue)] 39 0 false (fun _ => false) (kp [(0, [0, 1]), (1, [0, 1, 6]), (2, [0, 1, 6, 11, 12]), (3, [0, 1, 6, 11, 12, 13]), (4, [0, 1, 6, 7, 11, 12]), (5, [0, 1, 6, 8, 9, 11, 12]), (6, [0, 1, 6, 8, 11, 12, 27]), (7, [4, 5]), (8, [0, 1, 6, 11, 12]), (9, [0, 1, 6, 11, 12, 34]), (10, [4, 5]), (11, [0, 1, 6, 11, 12]), (12, [4, 5])]) [] []) (mkCf_ok te_ok (l := [(97, pe_hexValue)]) (⟨pe_hexValue_ok, trivial⟩) mixed_ok) Try.func64 rfl rfl rfl (by simp [mkCf]) (by simp [mkCf]) (rs := [.tmp 4, .tmp 5]) rfl 100000 ?_⟩
  simp only [↓XC, XV, entry, isStr, tdOf, szOf, zeroOf, TD.isStruct, okCell, cellsOf, SO.isMap, SO.sz, SO.el, SO.n, SO.ro, mkCf, quietOp, opClass, okLeaf, spl, cellV, isU8T, isSlS, fillS, fillP, repl, SO.put, SV.mapH, frzV, frzVL, frzOk, frzOkL, lendOk, SV.bit, bitL, SV.plain, plainL, isE, mapHL, strip, stripL, gok, gokL, forall_const, implies_true, reduceIte, Nat.reduceAdd, Nat.reduceLT, Nat.reduceEqDiff, Nat.reduceBEq, Nat.reduceLeDiff, reduceCtorEq, Nat.reduceSub, Nat.reduceMul, Int.reduceToNat, Int.reduceLT, Int.reduceLE, TES, pe_hexValue_eq]
  refine VLoops.of (ι := {q : Nat × Int // q.1 ≤ s.length ∧ 0 ≤ q.2 ∧ q.2 ≤ 9007199254740991 ∧ digGo s base (s.length - q.1) q.1 q.2 = digV s base}) (fun q => ⟨[(0, .s s), (1, .i .i64 base), (6, .i .i64 q.1.2), (11, .i .i64 s.length), (12, .i .i64 q.1.1)], []⟩) (fun q => s.length - q.1.1) ⟨(0, 0), by simp, by simp, by simp, by simp [digV]⟩ (Ent.refl _ _) ?_
  rintro ⟨⟨i, n⟩, h1, h2, h3, h4⟩
  simp only at h1 h2 h3 h4
  simp only [↓XC, XV, entry, isStr, tdOf, szOf, zeroOf, TD.isStruct, okCell, cellsOf, SO.isMap, SO.sz, SO.el, SO.n, SO.ro, mkCf, quietOp, opClass, okLeaf, spl, cellV, isU8T, isSlS, fillS, fillP, repl, SO.put, SV.mapH, frzV, frzVL, frzOk, frzOkL, lendOk, SV.bit, bitL, SV.plain, plainL, isE, mapHL, strip, stripL, gok, gokL, forall_const, implies_true, reduceIte, Nat.reduceAdd, Nat.reduceLT, Nat.reduceEqDiff, Nat.reduceBEq, Nat.reduceLeDiff, reduceCtorEq, Nat.reduceSub, Nat.reduceMul, Int.reduceToNat, Int.reduceLT, Int.reduceLE, TES, pe_hexValue_eq]
  have hx1 : hexV s i 1 = hex1 (byteAt s i) := by
    show hexGo s 1 i 0 = _
    simp only [hexGo]
    cases hex1 (byteAt s i) <;> simp
  rw [hx1]
  have hstep : i < s.length → digV s base = match hex1 (byteAt s i) with
      | some d => if base ≤ d then none else if n * base + d > 9007199254740991 then none else digGo s base (s.length - (i + 1)) ((i : Int) + 1) (n * base + d)
      | none => none := by
    intro hi
    rw [← h4, show s.length - i = (s.length - (i + 1)) + 1 from by omega]
    rfl
  refine ⟨fun hi => Chk.mk ⟨hp.1, by omega, by omega⟩ fun _ => ?_, fun hi => ?_⟩
  · have hs := hstep (by omega)
    cases hd : hex1 (byteAt s i) with
    | none => rw [hd] at hs; simp only at hs; rw [hs]; simp
    | some d =>
      rw [hd] at hs
      simp only at hs
      obtain ⟨d1, d2⟩ := hex1_range hd
      simp only [Option.isSome_some, Option.getD_some, Bool.not_true, Bool.false_or, decide_eq_true_eq, decide_eq_false_iff_not]
      refine ⟨fun hb => ?_, fun hb => ?_⟩
      · rw [if_pos hb] at hs; rw [hs]; rfl
      · rw [if_neg hb] at hs
        have hnb : 0 ≤ n * base ∧ n * base ≤ 144115188075855856 := by rcases hp.2 with h | h | h <;> subst h <;> omega
        refine Chk.mk (by simp only [inR]; omega) fun _ => Chk.mk (by simp only [inR]; omega) fun _ => ⟨fun ho => by rw [if_pos ho] at hs; rw [hs]; rfl, fun ho => ?_⟩
        rw [if_neg ho] at hs
        refine Chk.mk (by simp only [inR]; omega) fun _ => ⟨⟨(i + 1, n * base + d), by simp only; omega, by simp only; omega, by simp only; omega, by rw [hs]; rfl⟩, by simp only; omega, ?_⟩
        simp only [Int.natCast_add]
        exact Ent.refl _ _
  · have : s.length - i = 0 := by omega
    rw [this] at h4
    rw [← h4]
    simp [digGo]
noncomputable def pe_digitsOf : PE := peR (fun (x : List UInt8 × Int) => match x with | (s, base) => [.s s, .i .i64 base]) (fun (x : List UInt8 × Int) => match x with | (s, base) => s.length ≤ 1048576 ∧ (base = 8 ∨ base = 10 ∨ base = 16)) (fun (x : List UInt8 × Int) => match x with | (s, base) => .tup [.i .i64 ((digV s base).getD 0), .b ((digV s base).isSome && decide (s ≠ []))])
theorem pe_digitsOf_eq {s : List UInt8} {base : Int} : pe_digitsOf [.s s, .i .i64 base] = some (s.length ≤ 1048576 ∧ (base = 8 ∨ base = 10 ∨ base = 16), .tup [.i .i64 ((digV s base).getD 0), .b ((digV s base).isSome && decide (s ≠ []))]) := peR_eq (by rintro ⟨a0, a1⟩ ⟨b0, b1⟩ h; simp_all []) (s, base)
theorem pe_digitsOf_ok : PE1 Try.prog 64 pe_digitsOf := peR_ok (by rintro ⟨s, base⟩ hp; exact digitsOf s base hp)
theorem l14Digits (s : List UInt8) (base : Int) (hp : s.length ≤ 1048576 ∧ (base = 8 ∨ base = 10 ∨ base = 16)) : PF Try.prog 63 [.s s, .i .i64 base] (.i .i64 (if s = [] then -1 else (digV s base).getD (-1))) := by
  refine ⟨rfl, rfl, FnK.of (cf := mkCf Try.prog te [] 63 0 false (fun _ => false) (kp [(0, [0, 1]), (1, [0, 1, 5]), (2, [0, 1, 5, 6]), (3, [0, 1, 5, 6, 12]), (4, [0, 1, 5, 6]), (5, [0, 1, 5, 6, 7]), (6, [0, 1, 5, 6, 7, 8]), (7, [0, 1, 5, 6, 7, 8, 18]), (8, [0, 1, 5, 6, 7]), (9, [0, 1, 5, 6, 7, 8, 28]), (10, [0, 1, 5, 6, 7]), (11, [0, 1, 5, 6, 7, 8, 39]), (12, [0, 1, 5, 6, 7]), (13, [0, 1, 5, 6, 7, 52]), (14, [4]), (15, [0, 1, 5, 6]), (16, [0, 1, 5, 6, 59]), (17, [4]), (18, [5, 61]), (19, [4]), (20, [4])]) [] []) (mkCf_ok te_ok (l := []) (trivial) mixed_ok) Try.func63 rfl rfl rfl (by simp [mkCf]) (by simp [mkCf]) (rs := [.tmp 4]) rfl 100000 ?_⟩
  simp only [↓XC, XV, entry, isStr, tdOf, szOf, zeroOf, TD.isStruct, okCell, cellsOf, SO.isMap, SO.sz, SO.el, SO.n, SO.ro, mkCf, quietOp, opClass, okLeaf, spl, cellV, isU8T, isSlS, fillS, fillP, repl, SO.put, SV.mapH, frzV, frzVL, frzOk, frzOkL, lendOk, SV.bit, bitL, SV.plain, plainL, isE, mapHL, strip, stripL, gok, gokL, forall_const, implies_true, reduceIte, Nat.reduceAdd, Nat.reduceLT, Nat.reduceEqDiff, Nat.reduceBEq, Nat.reduceLeDiff, reduceCtorEq, Nat.reduceSub, Nat.reduceMul, Int.reduceToNat, Int.reduceLT, Int.reduceLE, TES]
  refine VLoops.of (ι := {q : Nat × Int // q.1 ≤ s.length ∧ 0 ≤ q.2 ∧ q.2 ≤ 9007199254740991 ∧ digGo s base (s.length - q.1) q.1 q.2 = digV s base}) (fun q => ⟨[(0, .s s), (1, .i .i64 base), (5, .i .i64 q.1.2), (6, .i .i64 q.1.1)], []⟩) (fun q => s.length - q.1.1) ⟨(0, 0), by simp, by simp, by simp, by simp [digV]⟩ (Ent.refl _ _) ?_
  rintro ⟨⟨i, n⟩, h1, h2, h3, h4⟩
  simp only at h1 h2 h3 h4
  simp only [↓XC, XV, entry, isStr, tdOf, szOf, zeroOf, TD.isStruct, okCell, cellsOf, SO.isMap, SO.sz, SO.el, SO.n, SO.ro, mkCf, quietOp, opClass, okLeaf, spl, cellV, isU8T, isSlS, fillS, fillP, repl, SO.put, SV.mapH, frzV, frzVL, frzOk, frzOkL, lendOk, SV.bit, bitL, SV.plain, plainL, isE, mapHL, strip, stripL, gok, gokL, forall_const, implies_true, reduceIte, Nat.reduceAdd, Nat.reduceLT, Nat.reduceEqDiff, Nat.reduceBEq, Nat.reduceLeDiff, reduceCtorEq, Nat.reduceSub, Nat.reduceMul, Int.reduceToNat, Int.reduceLT, Int.reduceLE, TES]
  have hstep : i < s.length → digV s base = match hex1 (byteAt s i) with
      | some d => if base ≤ d then none else if n * base + d > 9007199254740991 then none else digGo s base (s.length - (i + 1)) ((i : Int) + 1) (n * base + d)
      | none => none := by
    intro hi
    rw [← h4, show s.length - i = (s.length - (i + 1)) + 1 from by omega]
    rfl
  have fail : digV s base = none → SV.i .i64 (-1) = SV.i .i64 (if s = [] then -1 else (digV s base).getD (-1)) := by
    intro h; rw [h]; split <;> rfl
  have hnb : 0 ≤ n * base ∧ n * base ≤ 144115188075855856 := by rcases hp.2 with h | h | h <;> subst h <;> omega
  have body : i < s.length → ∀ d, hex1 (byteAt s i) = some d → ((d ≥ base → SV.i .i64 (-1) = SV.i .i64 (if s = [] then -1 else (digV s base).getD (-1))) ∧ (¬ d ≥ base → Chk (inR .i64 (n * base)) (Chk (inR .i64 (n * base + d)) ((n * base + d > 9007199254740991 → SV.i .i64 (-1) = SV.i .i64 (if s = [] then -1 else (digV s base).getD (-1))) ∧
      (¬ n * base + d > 9007199254740991 → Chk (inR .i64 ((i : Int) + 1)) (∃ j : {q : Nat × Int // q.1 ≤ s.length ∧ 0 ≤ q.2 ∧ q.2 ≤ 9007199254740991 ∧ digGo s base (s.length - q.1) q.1 q.2 = digV s base},
        s.length - j.val.1 < s.length - i ∧ Ent 0 ⟨[(0, .s s), (1, .i .i64 base), (5, .i .i64 (n * base + d)), (6, .i .i64 ((i : Int) + 1))], []⟩ ⟨[(0, .s s), (1, .i .i64 base), (5, .i .i64 j.val.2), (6, .i .i64 j.val.1)], []⟩)))))) := by
    intro hi d hd
    have hs := hstep hi
    rw [hd] at hs
    simp only at hs
    obtain ⟨d1, d2⟩ := hex1_range hd
    refine ⟨fun hb => fail (by rw [if_pos hb] at hs; exact hs), fun hb => ?_⟩
    rw [if_neg hb] at hs
    refine Chk.mk (by simp only [inR]; omega) fun _ => Chk.mk (by simp only [inR]; omega) fun _ => ⟨fun ho => fail (by rw [if_pos ho] at hs; exact hs), fun ho => ?_⟩
    rw [if_neg ho] at hs
    refine Chk.mk (by simp only [inR]; omega) fun _ => ⟨⟨(i + 1, n * base + d), by simp only; omega, by simp only; omega, by simp only; omega, by rw [hs]; rfl⟩, by simp only; omega, ?_⟩
    simp only [Int.natCast_add]
    exact Ent.refl _ _
  have hby : i < s.length → byteAt s i = ((s.getD i 0).toNat : Int) := by
    intro hi
    have : spot s i = i := by unfold spot; grind
    unfold byteAt
    rw [this, if_neg (by omega), Int.toNat_natCast]
  have hc := (s.getD i 0).toNat_lt
  generalize hcc : ((s.getD i 0).toNat : Int) = c at *
  have hc2 : 0 ≤ c ∧ c < 256 := by omega
  have hx : ∀ b : Int, hex1 b = if 48 ≤ b ∧ b ≤ 57 then some (b - 48) else if 97 ≤ b ∧ b ≤ 102 then some (b - 87) else if 65 ≤ b ∧ b ≤ 70 then some (b - 55) else none := fun b => rfl
  refine ⟨fun hi => Chk.mk (by omega) fun _ => ⟨fun c1 => ?_, fun c1 => ⟨fun c2 => ?_, fun c2 => ⟨fun c3 => ?_, fun c3 => ?_⟩⟩⟩, fun hi => ?_⟩
  · simp only [Bool.and_eq_true, decide_eq_true_eq, ge_iff_le] at c1
    refine Chk.mk (by simp only [inR]; omega) fun _ => Chk.mk (by simp only [inR]; omega) fun _ => ?_
    exact body (by omega) (c - 48) (by rw [hby (by omega), hx, if_pos c1])
  · simp only [Bool.and_eq_true, decide_eq_true_eq, Bool.and_eq_false_iff, decide_eq_false_iff_not, ge_iff_le] at c1 c2
    refine Chk.mk (by simp only [inR]; omega) fun _ => Chk.mk (by simp only [inR]; omega) fun _ => Chk.mk (by simp only [inR]; omega) fun _ => ?_
    exact body (by omega) (c - 97 + 10) (by rw [hby (by omega), hx, if_neg (by omega), if_pos c2]; congr 1; omega)
  · simp only [Bool.and_eq_true, decide_eq_true_eq, Bool.and_eq_false_iff, decide_eq_false_iff_not, ge_iff_le] at c1 c2 c3
    refine Chk.mk (by simp only [inR]; omega) fun _ => Chk.mk (by simp only [inR]; omega) fun _ => Chk.mk (by simp only [inR]; omega) fun _ => ?_
    exact body (by omega) (c - 65 + 10) (by rw [hby (by omega), hx, if_neg (by omega), if_neg (by omega), if_pos c3]; congr 1; omega)
  · simp only [Bool.and_eq_false_iff, decide_eq_false_iff_not, ge_iff_le] at c1 c2 c3
    have hs := hstep (by omega)
    rw [hby (by omega), hx, if_neg (by omega), if_neg (by omega), if_neg (by omega)] at hs
    exact ⟨fun _ => fail hs, fun h => by rcases hp.2 with h' | h' | h' <;> subst h' <;> omega⟩
  · have : s.length - i = 0 := by omega
    rw [this] at h4
    rw [← h4]
    refine ⟨fun h => by rw [if_pos h], fun h => by rw [if_neg h]; rfl⟩
noncomputable def pe_l14Digits : PE := peR (fun (x : List UInt8 × Int) => match x with | (s, base) => [.s s, .i .i64 base]) (fun (x : List UInt8 × Int) => match x with | (s, base) => s.length ≤ 1048576 ∧ (base = 8 ∨ base = 10 ∨ base = 16)) (fun (x : List UInt8 × Int) => match x with | (s, base) => .i .i64 (if s = [] then -1 else (digV s base).getD (-1)))
theorem pe_l14Digits_eq {s : List UInt8} {base : Int} : pe_l14Digits [.s s, .i .i64 base] = some (s.length ≤ 1048576 ∧ (base = 8 ∨ base = 10 ∨ base = 16), .i .i64 (if s = [] then -1 else (digV s base).getD (-1))) := peR_eq (by rintro ⟨a0, a1⟩ ⟨b0, b1⟩ h; simp_all []) (s, base)
theorem pe_l14Digits_ok : PE1 Try.prog 63 pe_l14Digits := peR_ok (by rintro ⟨s, base⟩ hp; exact l14Digits s base hp)
theorem digGo_range {s : List UInt8} {base : Int} (hb : 0 ≤ base) : ∀ (k : Nat) (i n m : Int), 0 ≤ n → n ≤ 9007199254740991 → digGo s base k i n = some m → 0 ≤ m ∧ m ≤ 9007199254740991
  | 0, i, n, m, h0, h1, h => by simp only [digGo, Option.some.injEq] at h; omega
  | k + 1, i, n, m, h0, h1, h => by
    simp only [digGo] at h
    split at h
    · rename_i d hd
      obtain ⟨d1, d2⟩ := hex1_range hd
      have := Int.mul_nonneg h0 hb
      split at h
      · cases h
      · split at h
        · cases h
        · exact digGo_range hb k _ _ m (by omega) (by omega) h
    · cases h
theorem digV_cases (s : List UInt8) {base : Int} (hb : 0 ≤ base) : digV s base = none ∨ ∃ n, digV s base = some n ∧ 0 ≤ n ∧ n ≤ 9007199254740991 := by
  cases h : digV s base with
  | none => exact .inl rfl
  | some n => exact .inr ⟨n, rfl, digGo_range hb _ _ _ _ (by decide) (by decide) h⟩
def intV (s : List UInt8) : Option Int :=
  if s.length > 2 ∧ s.take 2 = [48, 111] then digV (s.drop 2) 8
  else if s.length > 2 ∧ s.take 2 = [48, 120] then digV (s.drop 2) 16
  else if s.length > 1 ∧ (s.getD 0 0 = 45 ∨ s.getD 0 0 = 43) then (digV (s.drop 1) 10).map fun n => if s.getD 0 0 = 45 then -n else n
  else if s = [] then none else digV s 10
theorem specIntOf (s : List UInt8) (hp : s.length ≤ 1048576) : PF Try.prog 25 [.s s] (.tup [.i .i64 ((intV s).getD 0), .b (intV s).isSome]) := by
  refine ⟨rfl, rfl, FnK.of (cf := mkCf Try.prog te [(63, pe_l14Digits)] 60 0 false (fun _ => false) (kp [(0, [0]), (1, [0]), (2, [4]), (3, [0, 7]), (4, [4]), (5, [0, 19]), (6, [4]), (7, [0, 31]), (8, [0, 4]), (9, [4, 54]), (10, [2, 3]), (11, [4, 58]), (12, [2, 3]), (13, [2, 3])]) [] []) (mkCf_ok te_ok (l := [(63, pe_l14Digits)]) (⟨pe_l14Digits_ok, trivial⟩) mixed_ok) Try.func25 rfl rfl rfl (by simp [mkCf]) (by simp [mkCf]) (rs := [.tmp 2, .tmp 3]) rfl 100000 ?_⟩
  simp only [↓XC, XV, entry, isStr, tdOf, szOf, zeroOf, TD.isStruct, okCell, cellsOf, SO.isMap, SO.sz, SO.el, SO.n, SO.ro, mkCf, quietOp, opClass, okLeaf, spl, cellV, isU8T, isSlS, fillS, fillP, repl, SO.put, SV.mapH, frzV, frzVL, frzOk, frzOkL, lendOk, SV.bit, bitL, SV.plain, plainL, isE, mapHL, strip, stripL, gok, gokL, forall_const, implies_true, reduceIte, Nat.reduceAdd, Nat.reduceLT, Nat.reduceEqDiff, Nat.reduceBEq, Nat.reduceLeDiff, reduceCtorEq, Nat.reduceSub, Nat.reduceMul, Int.reduceToNat, Int.reduceLT, Int.reduceLE, TES, pe_l14Digits_eq]
  have z : ∀ x : UInt8, ((x.toNat : Int) = 45 ↔ x = 45) ∧ ((x.toNat : Int) = 43 ↔ x = 43) := by
    intro x
    have h1 : (x.toNat : Int) = 45 ↔ x.toNat = 45 := by omega
    have h2 : (x.toNat : Int) = 43 ↔ x.toNat = 43 := by omega
    rw [h1, h2, ← UInt8.toNat_inj, ← UInt8.toNat_inj]
    exact ⟨Iff.rfl, Iff.rfl⟩
  have e2 : s.length > 2 → s.drop 2 ≠ [] := by intro h h'; have := congrArg List.length h'; simp at this; omega
  have e1 : s.length > 1 → s.drop 1 ≠ [] := by intro h h'; have := congrArg List.length h'; simp at this; omega
  have l2 : (s.drop 2).length ≤ 1048576 := by simp; omega
  have l1 : (s.drop 1).length ≤ 1048576 := by simp; omega
  simp only [(z _).1, (z _).2, gt_iff_lt, ge_iff_le]
  have c1 : ((2 : Int) < s.length) = (2 < s.length) := propext (by omega)
  have c2 : ((1 : Int) < s.length) = (1 < s.length) := propext (by omega)
  simp only [c1, c2]
  rcases digV_cases (s.drop 2) (base := 8) (by decide) with h8 | ⟨n8, h8, r8⟩ <;> rcases digV_cases (s.drop 2) (base := 16) (by decide) with h16 | ⟨n16, h16, r16⟩ <;> rcases digV_cases (s.drop 1) (base := 10) (by decide) with h10 | ⟨n10, h10, r10⟩ <;> rcases digV_cases s (base := 10) (by decide) with h0 | ⟨n0, h0, r0⟩
  all_goals
    rw [h8, h16, h10, h0]
    unfold intV
    rw [h8, h16, h10, h0]
    repeat' (first | refine Chk.mk (by simp only [inR]; grind) fun _ => ?_ | refine And.intro ?_ ?_ | intro _)
    all_goals grind
noncomputable def pe_specIntOf : PE := peR (fun (s : List UInt8) => [.s s]) (fun (s : List UInt8) => s.length ≤ 1048576) (fun (s : List UInt8) => .tup [.i .i64 ((intV s).getD 0), .b (intV s).isSome])
theorem pe_specIntOf_eq {s : List UInt8} : pe_specIntOf [.s s] = some (s.length ≤ 1048576, .tup [.i .i64 ((intV s).getD 0), .b (intV s).isSome]) := peR_eq (by rintro a b h; simp_all []) s
theorem pe_specIntOf_ok : PE1 Try.prog 25 pe_specIntOf := peR_ok (by rintro s hp; exact specIntOf s hp)
theorem implIntOf (s : List UInt8) (hp : s.length ≤ 1048576) : PF Try.prog 26 [.s s] (.tup [.i .i64 ((intV s).getD 0), .b (intV s).isSome]) := by
  refine ⟨rfl, rfl, FnK.of (cf := mkCf Try.prog te [(64, pe_digitsOf)] 61 0 false (fun _ => false) (kp [(0, [0]), (1, [0, 25]), (2, [0, 4]), (3, [0, 4, 28]), (4, [0, 4]), (5, [2, 3]), (6, [0, 5]), (7, [0, 5, 46]), (8, [0, 5, 49]), (9, [0, 5]), (10, [0, 5]), (11, [5, 6, 7]), (12, [2, 3])]) [] []) (mkCf_ok te_ok (l := [(64, pe_digitsOf)]) (⟨pe_digitsOf_ok, trivial⟩) mixed_ok) Try.func26 rfl rfl rfl (by simp [mkCf]) (by simp [mkCf]) (rs := [.tmp 2, .tmp 3]) rfl 100000 ?_⟩
  simp only [↓XC, XV, entry, isStr, tdOf, szOf, zeroOf, TD.isStruct, okCell, cellsOf, SO.isMap, SO.sz, SO.el, SO.n, SO.ro, mkCf, quietOp, opClass, okLeaf, spl, cellV, isU8T, isSlS, fillS, fillP, repl, SO.put, SV.mapH, frzV, frzVL, frzOk, frzOkL, lendOk, SV.bit, bitL, SV.plain, plainL, isE, mapHL, strip, stripL, gok, gokL, forall_const, implies_true, reduceIte, Nat.reduceAdd, Nat.reduceLT, Nat.reduceEqDiff, Nat.reduceBEq, Nat.reduceLeDiff, reduceCtorEq, Nat.reduceSub, Nat.reduceMul, Int.reduceToNat, Int.reduceLT, Int.reduceLE, TES, pe_digitsOf_eq]
  have zz : ∀ (x : UInt8) (k : Nat), k < 256 → ((x.toNat : Int) = (k : Int) ↔ x = UInt8.ofNat k) := by
    intro x k hk
    rw [← UInt8.toNat_inj, UInt8.toNat_ofNat']
    omega
  have z45 : ∀ x : UInt8, ((x.toNat : Int) = 45 ↔ x = 45) := fun x => zz x 45 (by decide)
  have z43 : ∀ x : UInt8, ((x.toNat : Int) = 43 ↔ x = 43) := fun x => zz x 43 (by decide)
  have z48 : ∀ x : UInt8, ((x.toNat : Int) = 48 ↔ x = 48) := fun x => zz x 48 (by decide)
  have z111 : ∀ x : UInt8, ((x.toNat : Int) = 111 ↔ x = 111) := fun x => zz x 111 (by decide)
  have z120 : ∀ x : UInt8, ((x.toNat : Int) = 120 ↔ x = 120) := fun x => zz x 120 (by decide)
  simp only [z45, z43, z48, z111, z120]
  have dn : ∀ base, digV [] base = some 0 := fun _ => rfl
  rcases s with _ | ⟨a, _ | ⟨b, r⟩⟩
  · simp [Chk, intV, dn, inR]
  · by_cases h1 : a = 45
    · subst h1
      have : digV [45] 10 = none := by decide
      simp [Chk, intV, dn, inR, this]
    · by_cases h2 : a = 43
      · subst h2
        have : digV [43] 10 = none := by decide
        simp [Chk, intV, dn, inR, this]
      · rcases digV_cases [a] (base := 10) (by decide) with h | ⟨n, h, hn⟩
        · simp [Chk, intV, h1, h2, h, inR]
        · simp [Chk, intV, h1, h2, h, inR]; omega
  · have hl : r.length ≤ 1048576 := by simp at hp; omega
    have hl1 : r.length + 1 ≤ 1048576 := by simp at hp; omega
    have hl2 : r.length + 1 + 1 ≤ 1048576 := by simp at hp; omega
    by_cases h0 : a = 48
    · subst h0
      by_cases h1 : b = 111
      · subst h1
        rcases r with _ | ⟨c, r⟩
        · have : digV [48, 111] 10 = none := by decide
          simp [Chk, intV, dn, inR, this]
        · rcases digV_cases (c :: r) (base := 8) (by decide) with h | ⟨n, h, hn⟩ <;> simp at hl <;> simp [Chk, intV, h, inR] <;> omega
      · by_cases h2 : b = 120
        · subst h2
          rcases r with _ | ⟨c, r⟩
          · have : digV [48, 120] 10 = none := by decide
            simp [Chk, intV, dn, inR, this]
          · rcases digV_cases (c :: r) (base := 16) (by decide) with h | ⟨n, h, hn⟩ <;> simp at hl <;> simp [Chk, intV, h, inR] <;> omega
        · rcases digV_cases (48 :: b :: r) (base := 10) (by decide) with h | ⟨n, h, hn⟩ <;> simp [Chk, intV, h, h1, h2, inR] <;> omega
    · by_cases h1 : a = 45
      · subst h1
        rcases digV_cases (b :: r) (base := 10) (by decide) with h | ⟨n, h, hn⟩ <;> simp [Chk, intV, h, inR] <;> omega
      · by_cases h2 : a = 43
        · subst h2
          rcases digV_cases (b :: r) (base := 10) (by decide) with h | ⟨n, h, hn⟩ <;> simp [Chk, intV, h, inR] <;> omega
        · rcases digV_cases (a :: b :: r) (base := 10) (by decide) with h | ⟨n, h, hn⟩ <;> simp [Chk, intV, h, h0, h1, h2, inR] <;> omega
noncomputable def pe_implIntOf : PE := peR (fun (s : List UInt8) => [.s s]) (fun (s : List UInt8) => s.length ≤ 1048576) (fun (s : List UInt8) => .tup [.i .i64 ((intV s).getD 0), .b (intV s).isSome])
theorem pe_implIntOf_eq {s : List UInt8} : pe_implIntOf [.s s] = some (s.length ≤ 1048576, .tup [.i .i64 ((intV s).getD 0), .b (intV s).isSome]) := peR_eq (by rintro a b h; simp_all []) s
theorem pe_implIntOf_ok : PE1 Try.prog 26 pe_implIntOf := peR_ok (by rintro s hp; exact implIntOf s hp)
theorem law (s : List UInt8) (hp : True) : PF Try.prog 6 [.s s] (.b true) := by
  refine ⟨rfl, rfl, FnK.of (cf := mkCf Try.prog te [(25, pe_specIntOf), (26, pe_implIntOf)] 28 0 false (fun _ => false) (kp [(0, [0]), (1, [0, 9]), (2, [2]), (3, [0, 3, 4]), (4, [3, 4, 5, 6]), (5, [27]), (6, [2]), (7, [2])]) [] []) (mkCf_ok te_ok (l := [(25, pe_specIntOf), (26, pe_implIntOf)]) (⟨pe_specIntOf_ok, pe_implIntOf_ok, trivial⟩) mixed_ok) Try.func6 rfl rfl rfl (by simp [mkCf]) (by simp [mkCf]) (rs := [.tmp 2]) rfl 100000 ?_⟩
  simp only [↓XC, XV, entry, isStr, tdOf, szOf, zeroOf, TD.isStruct, okCell, cellsOf, SO.isMap, SO.sz, SO.el, SO.n, SO.ro, mkCf, quietOp, opClass, okLeaf, spl, cellV, isU8T, isSlS, fillS, fillP, repl, SO.put, SV.mapH, frzV, frzVL, frzOk, frzOkL, lendOk, SV.bit, bitL, SV.plain, plainL, isE, mapHL, strip, stripL, gok, gokL, forall_const, implies_true, reduceIte, Nat.reduceAdd, Nat.reduceLT, Nat.reduceEqDiff, Nat.reduceBEq, Nat.reduceLeDiff, reduceCtorEq, Nat.reduceSub, Nat.reduceMul, Int.reduceToNat, Int.reduceLT, Int.reduceLE, TES, pe_specIntOf_eq, pe_implIntOf_eq]
  repeat' (first | refine Chk.mk (by simp only [inR]; grind) fun _ => ?_ | refine And.intro ?_ ?_ | intro _)
  all_goals (try simp only [SV.b.injEq, SV.i.injEq, SV.agg.injEq])
  all_goals grind
noncomputable def pe_law : PE := peR (fun (s : List UInt8) => [.s s]) (fun (s : List UInt8) => True) (fun (s : List UInt8) => .b true)
theorem pe_law_eq {s : List UInt8} : pe_law [.s s] = some (True, .b true) := peR_eq (by rintro a b h; simp_all []) s
theorem pe_law_ok : PE1 Try.prog 6 pe_law := peR_ok (by rintro s hp; exact law s hp)
end Go.T6
