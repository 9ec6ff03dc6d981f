/- Own text: part RuneA. -/
import Derived.Test.YtkbcappnemjjnaaGreatBaseE
import Derived.Test.YtkbcappnemjjnaaGreatTypes2
import Derived.Test.YtkbcappnemjjnaaGreatTextA
import Derived.Test.YtkbcappnemjjnaaGreatEventA
import Derived.Test.YtkbcappnemjjnaaGreatLineA
set_option linter.unusedVariables false
set_option linter.unusedSimpArgs false
namespace Go.T61
open Go.Proofs Go.Vg Go.RowKit Go.TT Go.Pl Go.T8 Go.T12 Go.T60
set_option linter.unusedVariables false
set_option linter.unusedSimpArgs false
set_option maxRecDepth 10000
set_option maxHeartbeats 4000000
theorem RuneBytes_i (r : Int) : PF Tryz.prog 115 [.i .i64 r] (.s (rnB r)) := by
  refine ⟨rfl, rfl, FnK.of (cf := mkCf Tryz.prog te [(101, pe_within)] 13 0 false (fun _ => false) (kp [(0, [0]), (1, [0, 9]), (2, [2]), (3, [2])]) [] []) (mkCf_ok te_ok (l := [(101, pe_within)]) (⟨pe_within_ok, trivial⟩) mixed_ok) Tryz.func115 rfl rfl rfl (by simp [mkCf]) (by simp [mkCf]) (rs := [.tmp 2]) rfl 100000 ?_⟩
  simp only [↓XC, XV, XT, forall_const, implies_true, reduceIte, Nat.reduceAdd, Nat.reduceLT, Nat.reduceEqDiff, Nat.reduceBEq, Nat.reduceLeDiff, reduceCtorEq, Nat.reduceSub, Nat.reduceMul, Int.reduceToNat, Int.reduceLT, Int.reduceLE, TES, pe_within_eq]
  refine ⟨fun h => ?_, fun h => ?_⟩
  · rw [rnB_bad (by simp only [Bool.or_eq_true, Bool.and_eq_true, Bool.or_eq_false_iff, Bool.and_eq_false_iff, decide_eq_true_eq, decide_eq_false_iff_not, Bool.not_eq_true', Bool.not_eq_false', beq_iff_eq, beq_eq_false_iff_ne, ne_eq, ge_iff_le, gt_iff_lt, Int.not_le, Int.not_lt, Int.ofNat_le, Int.ofNat_lt] at h; omega)]
  · have hv : ¬ (r < 0 ∨ 1114111 < r ∨ (55296 ≤ r ∧ r ≤ 57343)) := by simp only [Bool.or_eq_true, Bool.and_eq_true, Bool.or_eq_false_iff, Bool.and_eq_false_iff, decide_eq_true_eq, decide_eq_false_iff_not, Bool.not_eq_true', Bool.not_eq_false', beq_iff_eq, beq_eq_false_iff_ne, ne_eq, ge_iff_le, gt_iff_lt, Int.not_le, Int.not_lt, Int.ofNat_le, Int.ofNat_lt] at h; omega
    exact Chk.mk (by simp only [inR]; omega) fun _ => by rw [encode_rn hv]
noncomputable def pe_RuneBytes_i : PE := peR (fun (r : Int) => [.i .i64 r]) (fun (r : Int) => True) (fun (r : Int) => .s (rnB r))
theorem pe_RuneBytes_i_eq {r : Int} : pe_RuneBytes_i [.i .i64 r] = some (True, .s (rnB r)) := peR_eq (by rintro a b h; simp_all []) r
theorem pe_RuneBytes_i_ok : PE1 Tryz.prog 115 pe_RuneBytes_i := peR_ok (by rintro r hp; exact RuneBytes_i r)
theorem RuneBytes_s (r : Int) : PF Tryz.prog 110 [.i .i64 r] (.s (rnB r)) := by
  refine ⟨rfl, rfl, FnK.of (cf := mkCf Tryz.prog te [] 76 0 false (fun _ => false) (kp [(0, [0]), (1, [0, 3]), (2, [2]), (3, [0, 18]), (4, [2]), (5, [0, 25]), (6, [2]), (7, [0, 38]), (8, [2]), (9, [2])]) [] []) (mkCf_ok te_ok (l := []) (trivial) mixed_ok) Tryz.func110 rfl rfl rfl (by simp [mkCf]) (by simp [mkCf]) (rs := [.tmp 2]) rfl 100000 ?_⟩
  simp only [↓XC, XV, XT, forall_const, implies_true, reduceIte, Nat.reduceAdd, Nat.reduceLT, Nat.reduceEqDiff, Nat.reduceBEq, Nat.reduceLeDiff, reduceCtorEq, Nat.reduceSub, Nat.reduceMul, Int.reduceToNat, Int.reduceLT, Int.reduceLE, TES]
  refine ⟨fun h => ?_, fun h => ?_⟩
  · rw [rnB_bad (by simp only [Bool.or_eq_true, Bool.and_eq_true, Bool.or_eq_false_iff, Bool.and_eq_false_iff, decide_eq_true_eq, decide_eq_false_iff_not, Bool.not_eq_true', Bool.not_eq_false', beq_iff_eq, beq_eq_false_iff_ne, ne_eq, ge_iff_le, gt_iff_lt, Int.not_le, Int.not_lt, Int.ofNat_le, Int.ofNat_lt] at h; omega)]
  have hv : ¬ (r < 0 ∨ 1114111 < r ∨ (55296 ≤ r ∧ r ≤ 57343)) := by simp only [Bool.or_eq_true, Bool.and_eq_true, Bool.or_eq_false_iff, Bool.and_eq_false_iff, decide_eq_true_eq, decide_eq_false_iff_not, Bool.not_eq_true', Bool.not_eq_false', beq_iff_eq, beq_eq_false_iff_ne, ne_eq, ge_iff_le, gt_iff_lt, Int.not_le, Int.not_lt, Int.ofNat_le, Int.ofNat_lt] at h; omega
  clear h
  obtain ⟨n, rfl⟩ : ∃ n : Nat, r = n := ⟨r.toNat, by omega⟩
  have e1 : (n : Int).tdiv 64 = ((n / 64 : Nat) : Int) := tdiv_nat n 64
  have e2 : (n : Int).tdiv 4096 = ((n / 4096 : Nat) : Int) := tdiv_nat n 4096
  have e3 : (n : Int).tdiv 262144 = ((n / 262144 : Nat) : Int) := tdiv_nat n 262144
  have e4 : ∀ k : Nat, (k : Int).tmod 64 = ((k % 64 : Nat) : Int) := fun k => tmod_nat k 64
  have t1 : ∀ c k : Nat, ((c : Int) + (k : Int)).toNat = c + k := fun c k => by omega
  simp only [e1, e2, e3, e4]
  repeat' (first | with_reducible refine Chk.mk ?_ fun _ => ?_ | with_reducible refine And.intro ?_ ?_ | intro _)
  all_goals first
    | decide
    | omega
    | (simp only [inR]; omega)
    | (exact isU8_ints [_] _ (by assumption))
    | (exact isU8_ints [_, _] _ (by assumption))
    | (exact isU8_ints [_, _, _] _ (by assumption))
    | (exact isU8_ints [_, _, _, _] _ (by assumption))
    | (rw [rnB_1 hv (by omega), Int.toNat_natCast])
    | (rw [rnB_2 hv (by omega) (by omega)]; exact congrArg SV.s ((rowBytes_ints [_, _]).trans (by simp only [List.map_cons, List.map_nil]; first | rfl | (congr 2 <;> omega))))
    | (rw [rnB_3 hv (by omega) (by omega)]; exact congrArg SV.s ((rowBytes_ints [_, _, _]).trans (by simp only [List.map_cons, List.map_nil]; first | rfl | (congr 2 <;> omega))))
    | (rw [rnB_4 hv (by omega)]; exact congrArg SV.s ((rowBytes_ints [_, _, _, _]).trans (by simp only [List.map_cons, List.map_nil]; first | rfl | (congr 2 <;> omega))))
noncomputable def pe_RuneBytes_s : PE := peR (fun (r : Int) => [.i .i64 r]) (fun (r : Int) => True) (fun (r : Int) => .s (rnB r))
theorem pe_RuneBytes_s_eq {r : Int} : pe_RuneBytes_s [.i .i64 r] = some (True, .s (rnB r)) := peR_eq (by rintro a b h; simp_all []) r
theorem pe_RuneBytes_s_ok : PE1 Tryz.prog 110 pe_RuneBytes_s := peR_ok (by rintro r hp; exact RuneBytes_s r)
theorem shortEscape (b : Int) (hp : -1 ≤ b ∧ b ≤ 255) : PF Tryz.prog 114 [.i .i64 b] (.i .i64 (shE b)) := by
  refine ⟨rfl, rfl, FnK.of (cf := mkCf Tryz.prog te [] 42 0 false (fun _ => false) (kp [(0, [0]), (1, [0, 3]), (2, [0, 3, 4]), (3, [2]), (4, [0, 3, 6]), (5, [0, 3, 6]), (6, [2]), (7, [0, 3, 12]), (8, [0, 3, 12]), (9, [2]), (10, [0, 3, 15]), (11, [2]), (12, [0, 3, 17]), (13, [0, 3, 17]), (14, [2]), (15, [0, 3, 24]), (16, [2]), (17, [0, 3, 26]), (18, [2]), (19, [0, 3, 28]), (20, [0, 3, 28]), (21, [0, 3, 28]), (22, [0, 3, 28]), (23, [2]), (24, [3, 34]), (25, [2]), (26, [3, 36]), (27, [2]), (28, [3, 38]), (29, [2]), (30, [40]), (31, [2]), (32, [2])]) [] []) (mkCf_ok te_ok (l := []) (trivial) mixed_ok) Tryz.func114 rfl rfl rfl (by simp [mkCf]) (by simp [mkCf]) (rs := [.tmp 2]) rfl 100000 ?_⟩
  simp only [↓XC, XV, XT, forall_const, implies_true, reduceIte, Nat.reduceAdd, Nat.reduceLT, Nat.reduceEqDiff, Nat.reduceBEq, Nat.reduceLeDiff, reduceCtorEq, Nat.reduceSub, Nat.reduceMul, Int.reduceToNat, Int.reduceLT, Int.reduceLE, TES]
  repeat' (first | with_reducible refine Chk.mk ?_ fun _ => ?_ | with_reducible refine And.intro ?_ ?_ | intro _)
  all_goals first
    | (simp only [inR]; omega)
    | omega
    | (exfalso; omega)
    | (subst_vars; rfl)
    | (rw [shE_none' (by omega)])
noncomputable def pe_shortEscape : PE := peR (fun (b : Int) => [.i .i64 b]) (fun (b : Int) => -1 ≤ b ∧ b ≤ 255) (fun (b : Int) => .i .i64 (shE b))
theorem pe_shortEscape_eq {b : Int} : pe_shortEscape [.i .i64 b] = some (-1 ≤ b ∧ b ≤ 255, .i .i64 (shE b)) := peR_eq (by rintro a b h; simp_all []) b
theorem pe_shortEscape_ok : PE1 Tryz.prog 114 pe_shortEscape := peR_ok (by rintro b hp; exact shortEscape b hp)
theorem hexValue (s : Bs) (p m : Int) (hp : s.length ≤ 1048576 ∧ 0 ≤ p ∧ p ≤ s.length + 9 ∧ 0 ≤ m ∧ m ≤ 8) : PF Tryz.prog 116 [.s s, .i .i64 p, .i .i64 m] (.tup [.i .i64 (if (hxV s p.toNat m.toNat 0) < 0 then 0 else (hxV s p.toNat m.toNat 0)), .b (decide (0 ≤ (hxV s p.toNat m.toNat 0)))]) := by
  refine ⟨rfl, rfl, FnK.of (cf := mkCf Tryz.prog te [(51, pe_byteAt), (101, pe_within)] 48 0 false (fun _ => false) (kp [(0, [0, 1, 2]), (1, [0, 1, 2, 8]), (2, [0, 1, 8, 11, 12]), (3, [0, 1, 8, 11, 12, 13]), (4, [0, 1, 8, 9, 11, 12]), (5, [0, 1, 8, 10, 11, 12]), (6, [6, 7]), (7, [0, 1, 8, 10, 11, 12, 20]), (8, [0, 1, 8, 11, 12]), (9, [0, 1, 8, 10, 11, 12, 28]), (10, [0, 1, 8, 11, 12]), (11, [0, 1, 8, 10, 11, 12, 37]), (12, [0, 1, 8, 11, 12]), (13, [0, 1, 8, 11, 12]), (14, [6, 7])]) [] []) (mkCf_ok te_ok (l := [(51, pe_byteAt), (101, pe_within)]) (⟨pe_byteAt_ok, pe_within_ok, trivial⟩) mixed_ok) Tryz.func116 rfl rfl rfl (by simp [mkCf]) (by simp [mkCf]) (rs := [.tmp 6, .tmp 7]) rfl 100000 ?_⟩
  simp only [↓XC, XV, XT, forall_const, implies_true, reduceIte, Nat.reduceAdd, Nat.reduceLT, Nat.reduceEqDiff, Nat.reduceBEq, Nat.reduceLeDiff, reduceCtorEq, Nat.reduceSub, Nat.reduceMul, Int.reduceToNat, Int.reduceLT, Int.reduceLE, TES, pe_byteAt_eq, pe_within_eq]
  refine VLoops.of (ι := {x : Nat × Nat // x.1 ≤ m.toNat ∧ x.2 < 16 ^ x.1 ∧ hxV s (p.toNat + x.1) (m.toNat - x.1) x.2 = hxV s p.toNat m.toNat 0}) (fun x => ⟨[(0, .s s), (1, .i .i64 p), (8, .i .i64 (x.1.2 : Nat)), (11, .i .i64 m), (12, .i .i64 (x.1.1 : Nat))], []⟩) (fun x => m.toNat - x.1.1) ⟨(0, 0), Nat.zero_le _, by decide, rfl⟩ (Ent.refl _ _) ?_
  rintro ⟨⟨i, a⟩, hi, ha, hv⟩
  simp only [↓XC, XV, XT, forall_const, implies_true, reduceIte, Nat.reduceAdd, Nat.reduceLT, Nat.reduceEqDiff, Nat.reduceBEq, Nat.reduceLeDiff, reduceCtorEq, Nat.reduceSub, Nat.reduceMul, Int.reduceToNat, Int.reduceLT, Int.reduceLE, TES, pe_byteAt_eq, pe_within_eq]
  simp only at hi ha hv
  have h16 := hx16 (i := i) (by omega)
  refine ⟨fun h => Chk.mk (by simp only [inR]; omega) fun _ => Chk.mk hp.1 fun _ => ?_, fun h => ?_⟩
  · have hb : byt s (spot s (p + (i : Nat))) = byt s (p.toNat + i) := by rw [byt_spot (by omega)]; congr 1; omega
    rw [hb]
    obtain ⟨b, hbe⟩ : ∃ b, byt s (p.toNat + i) = b := ⟨_, rfl⟩
    rw [hbe]
    refine ⟨fun h1 => ?_, fun h1 => ⟨fun h2 => ?_, fun h2 => ⟨fun h3 => ?_, fun h3 => ?_⟩⟩⟩
    · simp only [Bool.or_eq_true, Bool.and_eq_true, Bool.or_eq_false_iff, Bool.and_eq_false_iff, decide_eq_true_eq, decide_eq_false_iff_not, Bool.not_eq_true', Bool.not_eq_false', beq_iff_eq, beq_eq_false_iff_ne, ne_eq, ge_iff_le, gt_iff_lt, Int.not_le, Int.not_lt, Int.ofNat_le, Int.ofNat_lt] at h1
      have hd : hxD b = b - 48 := by first | exact hxD_1 (by omega) (by omega) | exact hxD_2 (by omega) (by omega) | exact hxD_3 (by omega) (by omega)
      have hs := hxV_step (s := s) (p := p.toNat + i) (n := m.toNat - (i + 1)) (a := a) (by rw [hbe, hd]; omega)
      rw [show m.toNat - (i + 1) + 1 = m.toNat - i by omega, hv, hbe, hd] at hs
      refine Chk.mk (by simp only [inR]; omega) fun _ => Chk.mk (by simp only [inR]; omega) fun _ => Chk.mk (by simp only [inR]; omega) fun _ => Chk.mk (by simp only [inR]; omega) fun _ => ⟨⟨(i + 1, (16 * (a : Int) + (b - 48)).toNat), by simp only; omega, by simp only [Nat.pow_succ]; omega, by simp only; rw [hs, ← Nat.add_assoc]; congr 1; omega⟩, by simp only; omega, ?_⟩
      rw [show ((16 : Int) * a + b - 48) = (((16 * (a : Int) + (b - 48)).toNat : Nat) : Int) by omega]; exact (by first | exact Ent.refl _ _ | (simp only [Int.natCast_add, Int.natCast_one]; exact Ent.refl _ _))
    · simp only [Bool.or_eq_true, Bool.and_eq_true, Bool.or_eq_false_iff, Bool.and_eq_false_iff, decide_eq_true_eq, decide_eq_false_iff_not, Bool.not_eq_true', Bool.not_eq_false', beq_iff_eq, beq_eq_false_iff_ne, ne_eq, ge_iff_le, gt_iff_lt, Int.not_le, Int.not_lt, Int.ofNat_le, Int.ofNat_lt] at h2
      have hd : hxD b = b - 97 + 10 := by first | exact hxD_1 (by omega) (by omega) | exact hxD_2 (by omega) (by omega) | exact hxD_3 (by omega) (by omega)
      have hs := hxV_step (s := s) (p := p.toNat + i) (n := m.toNat - (i + 1)) (a := a) (by rw [hbe, hd]; omega)
      rw [show m.toNat - (i + 1) + 1 = m.toNat - i by omega, hv, hbe, hd] at hs
      refine Chk.mk (by simp only [inR]; omega) fun _ => Chk.mk (by simp only [inR]; omega) fun _ => Chk.mk (by simp only [inR]; omega) fun _ => Chk.mk (by simp only [inR]; omega) fun _ => Chk.mk (by simp only [inR]; omega) fun _ => ⟨⟨(i + 1, (16 * (a : Int) + (b - 97 + 10)).toNat), by simp only; omega, by simp only [Nat.pow_succ]; omega, by simp only; rw [hs, ← Nat.add_assoc]; congr 1; omega⟩, by simp only; omega, ?_⟩
      rw [show ((16 : Int) * a + b - 97 + 10) = (((16 * (a : Int) + (b - 97 + 10)).toNat : Nat) : Int) by omega]; exact (by first | exact Ent.refl _ _ | (simp only [Int.natCast_add, Int.natCast_one]; exact Ent.refl _ _))
    · simp only [Bool.or_eq_true, Bool.and_eq_true, Bool.or_eq_false_iff, Bool.and_eq_false_iff, decide_eq_true_eq, decide_eq_false_iff_not, Bool.not_eq_true', Bool.not_eq_false', beq_iff_eq, beq_eq_false_iff_ne, ne_eq, ge_iff_le, gt_iff_lt, Int.not_le, Int.not_lt, Int.ofNat_le, Int.ofNat_lt] at h3
      have hd : hxD b = b - 65 + 10 := by first | exact hxD_1 (by omega) (by omega) | exact hxD_2 (by omega) (by omega) | exact hxD_3 (by omega) (by omega)
      have hs := hxV_step (s := s) (p := p.toNat + i) (n := m.toNat - (i + 1)) (a := a) (by rw [hbe, hd]; omega)
      rw [show m.toNat - (i + 1) + 1 = m.toNat - i by omega, hv, hbe, hd] at hs
      refine Chk.mk (by simp only [inR]; omega) fun _ => Chk.mk (by simp only [inR]; omega) fun _ => Chk.mk (by simp only [inR]; omega) fun _ => Chk.mk (by simp only [inR]; omega) fun _ => Chk.mk (by simp only [inR]; omega) fun _ => ⟨⟨(i + 1, (16 * (a : Int) + (b - 65 + 10)).toNat), by simp only; omega, by simp only [Nat.pow_succ]; omega, by simp only; rw [hs, ← Nat.add_assoc]; congr 1; omega⟩, by simp only; omega, ?_⟩
      rw [show ((16 : Int) * a + b - 65 + 10) = (((16 * (a : Int) + (b - 65 + 10)).toNat : Nat) : Int) by omega]; exact (by first | exact Ent.refl _ _ | (simp only [Int.natCast_add, Int.natCast_one]; exact Ent.refl _ _))
    · simp only [Bool.or_eq_true, Bool.and_eq_true, Bool.or_eq_false_iff, Bool.and_eq_false_iff, decide_eq_true_eq, decide_eq_false_iff_not, Bool.not_eq_true', Bool.not_eq_false', beq_iff_eq, beq_eq_false_iff_ne, ne_eq, ge_iff_le, gt_iff_lt, Int.not_le, Int.not_lt, Int.ofNat_le, Int.ofNat_lt] at h1
      simp only [Bool.or_eq_true, Bool.and_eq_true, Bool.or_eq_false_iff, Bool.and_eq_false_iff, decide_eq_true_eq, decide_eq_false_iff_not, Bool.not_eq_true', Bool.not_eq_false', beq_iff_eq, beq_eq_false_iff_ne, ne_eq, ge_iff_le, gt_iff_lt, Int.not_le, Int.not_lt, Int.ofNat_le, Int.ofNat_lt] at h2
      simp only [Bool.or_eq_true, Bool.and_eq_true, Bool.or_eq_false_iff, Bool.and_eq_false_iff, decide_eq_true_eq, decide_eq_false_iff_not, Bool.not_eq_true', Bool.not_eq_false', beq_iff_eq, beq_eq_false_iff_ne, ne_eq, ge_iff_le, gt_iff_lt, Int.not_le, Int.not_lt, Int.ofNat_le, Int.ofNat_lt] at h3
      have hs := hxV_neg (s := s) (p := p.toNat + i) (n := m.toNat - (i + 1)) (a := a) (by rw [hbe, hxD_n (by omega) (by omega) (by omega)]; decide)
      rw [show m.toNat - (i + 1) + 1 = m.toNat - i by omega, hv] at hs
      rw [hs]; rfl
  · have hs : hxV s p.toNat m.toNat 0 = a := by rw [← hv, show m.toNat - i = 0 by omega]; rfl
    rw [hs, if_neg (by omega)]
    simp
noncomputable def pe_hexValue : PE := peR (fun (x : Bs × Int × Int) => match x with | (s, p, m) => [.s s, .i .i64 p, .i .i64 m]) (fun (x : Bs × Int × Int) => match x with | (s, p, m) => s.length ≤ 1048576 ∧ 0 ≤ p ∧ p ≤ s.length + 9 ∧ 0 ≤ m ∧ m ≤ 8) (fun (x : Bs × Int × Int) => match x with | (s, p, m) => .tup [.i .i64 (if (hxV s p.toNat m.toNat 0) < 0 then 0 else (hxV s p.toNat m.toNat 0)), .b (decide (0 ≤ (hxV s p.toNat m.toNat 0)))])
theorem pe_hexValue_eq {s : Bs} {p m : Int} : pe_hexValue [.s s, .i .i64 p, .i .i64 m] = some (s.length ≤ 1048576 ∧ 0 ≤ p ∧ p ≤ s.length + 9 ∧ 0 ≤ m ∧ m ≤ 8, .tup [.i .i64 (if (hxV s p.toNat m.toNat 0) < 0 then 0 else (hxV s p.toNat m.toNat 0)), .b (decide (0 ≤ (hxV s p.toNat m.toNat 0)))]) := peR_eq (by rintro ⟨a0, a1, a2⟩ ⟨b0, b1, b2⟩ h; simp_all []) (s, p, m)
theorem pe_hexValue_ok : PE1 Tryz.prog 116 pe_hexValue := peR_ok (by rintro ⟨s, p, m⟩ hp; exact hexValue s p m hp)
theorem Hex_s (s : Bs) (p m : Int) (hp : s.length ≤ 1048576 ∧ 0 ≤ p ∧ p ≤ s.length + 9 ∧ 0 ≤ m ∧ m ≤ 8) : PF Tryz.prog 111 [.s s, .i .i64 p, .i .i64 m] (.i .i64 (hxV s p.toNat m.toNat 0)) := by
  refine ⟨rfl, rfl, FnK.of (cf := mkCf Tryz.prog te [] 67 0 false (fun _ => false) (kp [(0, [0, 1, 2]), (1, [0, 1, 2, 7]), (2, [0, 1, 2, 7, 8]), (3, [0, 1, 2, 7, 8, 15]), (4, [0, 1, 2, 7, 8]), (5, [0, 1, 2, 7, 8, 21]), (6, [6]), (7, [0, 1, 2, 7, 8, 9]), (8, [6]), (9, [0, 1, 2, 7, 8, 9, 25]), (10, [0, 1, 2, 7, 8]), (11, [0, 1, 2, 7, 8, 9, 38]), (12, [0, 1, 2, 7, 8]), (13, [0, 1, 2, 7, 8, 9, 52]), (14, [0, 1, 2, 7, 8]), (15, [6])]) [] []) (mkCf_ok te_ok (l := []) (trivial) mixed_ok) Tryz.func111 rfl rfl rfl (by simp [mkCf]) (by simp [mkCf]) (rs := [.tmp 6]) rfl 100000 ?_⟩
  simp only [↓XC, XV, XT, forall_const, implies_true, reduceIte, Nat.reduceAdd, Nat.reduceLT, Nat.reduceEqDiff, Nat.reduceBEq, Nat.reduceLeDiff, reduceCtorEq, Nat.reduceSub, Nat.reduceMul, Int.reduceToNat, Int.reduceLT, Int.reduceLE, TES]
  refine VLoops.of (ι := {x : Nat × Nat // x.1 ≤ m.toNat ∧ x.2 < 16 ^ x.1 ∧ hxV s (p.toNat + x.1) (m.toNat - x.1) x.2 = hxV s p.toNat m.toNat 0}) (fun x => ⟨[(0, .s s), (1, .i .i64 p), (2, .i .i64 m), (7, .i .i64 (x.1.2 : Nat)), (8, .i .i64 (p + (x.1.1 : Nat)))], []⟩) (fun x => m.toNat - x.1.1) ⟨(0, 0), Nat.zero_le _, by decide, rfl⟩ (by simp only [Int.natCast_zero, Int.add_zero]; exact Ent.refl _ _) ?_
  rintro ⟨⟨i, a⟩, hi, ha, hv⟩
  simp only [↓XC, XV, XT, forall_const, implies_true, reduceIte, Nat.reduceAdd, Nat.reduceLT, Nat.reduceEqDiff, Nat.reduceBEq, Nat.reduceLeDiff, reduceCtorEq, Nat.reduceSub, Nat.reduceMul, Int.reduceToNat, Int.reduceLT, Int.reduceLE, TES]
  simp only at hi ha hv
  have h16 := hx16 (i := i) (by omega)
  have ET : (p + (i : Int)).toNat = p.toNat + i := by omega
  rw [ET]
  refine Chk.mk (by simp only [inR]; omega) fun _ => ⟨fun h => ⟨fun hg => ?_, fun hg => Chk.mk (by omega) fun _ => ?_⟩, fun h => ?_⟩
  · have hs := hxV_neg (s := s) (p := p.toNat + i) (n := m.toNat - (i + 1)) (a := a) (by rw [byt_ge (by omega)]; decide)
    rw [show m.toNat - (i + 1) + 1 = m.toNat - i by omega, hv] at hs
    rw [hs]
  · obtain ⟨b, hbe⟩ : ∃ b, byt s (p.toNat + i) = b := ⟨_, rfl⟩
    have hbb : ((s.getD (p.toNat + i) 0).toNat : Int) = b := by rw [← hbe, byt_lt (by omega)]
    rw [hbb]
    have hr := byt_range s (p.toNat + i)
    rw [hbe] at hr
    refine ⟨fun h1 => ?_, fun h1 => ⟨fun h2 => ?_, fun h2 => ⟨fun h3 => ?_, fun h3 => ?_⟩⟩⟩
    · simp only [Bool.or_eq_true, Bool.and_eq_true, Bool.or_eq_false_iff, Bool.and_eq_false_iff, decide_eq_true_eq, decide_eq_false_iff_not, Bool.not_eq_true', Bool.not_eq_false', beq_iff_eq, beq_eq_false_iff_ne, ne_eq, ge_iff_le, gt_iff_lt, Int.not_le, Int.not_lt, Int.ofNat_le, Int.ofNat_lt] at h1
      have hd : hxD b = b - 48 := by first | exact hxD_1 (by omega) (by omega) | exact hxD_2 (by omega) (by omega) | exact hxD_3 (by omega) (by omega)
      have hs := hxV_step (s := s) (p := p.toNat + i) (n := m.toNat - (i + 1)) (a := a) (by rw [hbe, hd]; omega)
      rw [show m.toNat - (i + 1) + 1 = m.toNat - i by omega, hv, hbe, hd] at hs
      refine Chk.mk (by simp only [inR]; omega) fun _ => Chk.mk (by simp only [inR]; omega) fun _ => Chk.mk (by simp only [inR]; omega) fun _ => Chk.mk (by simp only [inR]; omega) fun _ => Chk.mk (by simp only [inR]; omega) fun _ => ⟨⟨(i + 1, (16 * (a : Int) + (b - 48)).toNat), by simp only; omega, by simp only [Nat.pow_succ]; omega, by simp only; rw [hs, ← Nat.add_assoc]; congr 1; omega⟩, by simp only; omega, ?_⟩
      rw [show (a : Int) * 16 + (b - 48) = (((16 * (a : Int) + (b - 48)).toNat : Nat) : Int) by omega, Int.add_assoc]; exact (by first | exact Ent.refl _ _ | (simp only [Int.natCast_add, Int.natCast_one]; exact Ent.refl _ _))
    · simp only [Bool.or_eq_true, Bool.and_eq_true, Bool.or_eq_false_iff, Bool.and_eq_false_iff, decide_eq_true_eq, decide_eq_false_iff_not, Bool.not_eq_true', Bool.not_eq_false', beq_iff_eq, beq_eq_false_iff_ne, ne_eq, ge_iff_le, gt_iff_lt, Int.not_le, Int.not_lt, Int.ofNat_le, Int.ofNat_lt] at h2
      have hd : hxD b = b - 97 + 10 := by first | exact hxD_1 (by omega) (by omega) | exact hxD_2 (by omega) (by omega) | exact hxD_3 (by omega) (by omega)
      have hs := hxV_step (s := s) (p := p.toNat + i) (n := m.toNat - (i + 1)) (a := a) (by rw [hbe, hd]; omega)
      rw [show m.toNat - (i + 1) + 1 = m.toNat - i by omega, hv, hbe, hd] at hs
      refine Chk.mk (by simp only [inR]; omega) fun _ => Chk.mk (by simp only [inR]; omega) fun _ => Chk.mk (by simp only [inR]; omega) fun _ => Chk.mk (by simp only [inR]; omega) fun _ => Chk.mk (by simp only [inR]; omega) fun _ => Chk.mk (by simp only [inR]; omega) fun _ => ⟨⟨(i + 1, (16 * (a : Int) + (b - 97 + 10)).toNat), by simp only; omega, by simp only [Nat.pow_succ]; omega, by simp only; rw [hs, ← Nat.add_assoc]; congr 1; omega⟩, by simp only; omega, ?_⟩
      rw [show (a : Int) * 16 + (b - 97) + 10 = (((16 * (a : Int) + (b - 97 + 10)).toNat : Nat) : Int) by omega, Int.add_assoc]; exact (by first | exact Ent.refl _ _ | (simp only [Int.natCast_add, Int.natCast_one]; exact Ent.refl _ _))
    · simp only [Bool.or_eq_true, Bool.and_eq_true, Bool.or_eq_false_iff, Bool.and_eq_false_iff, decide_eq_true_eq, decide_eq_false_iff_not, Bool.not_eq_true', Bool.not_eq_false', beq_iff_eq, beq_eq_false_iff_ne, ne_eq, ge_iff_le, gt_iff_lt, Int.not_le, Int.not_lt, Int.ofNat_le, Int.ofNat_lt] at h3
      have hd : hxD b = b - 65 + 10 := by first | exact hxD_1 (by omega) (by omega) | exact hxD_2 (by omega) (by omega) | exact hxD_3 (by omega) (by omega)
      have hs := hxV_step (s := s) (p := p.toNat + i) (n := m.toNat - (i + 1)) (a := a) (by rw [hbe, hd]; omega)
      rw [show m.toNat - (i + 1) + 1 = m.toNat - i by omega, hv, hbe, hd] at hs
      refine Chk.mk (by simp only [inR]; omega) fun _ => Chk.mk (by simp only [inR]; omega) fun _ => Chk.mk (by simp only [inR]; omega) fun _ => Chk.mk (by simp only [inR]; omega) fun _ => Chk.mk (by simp only [inR]; omega) fun _ => Chk.mk (by simp only [inR]; omega) fun _ => ⟨⟨(i + 1, (16 * (a : Int) + (b - 65 + 10)).toNat), by simp only; omega, by simp only [Nat.pow_succ]; omega, by simp only; rw [hs, ← Nat.add_assoc]; congr 1; omega⟩, by simp only; omega, ?_⟩
      rw [show (a : Int) * 16 + (b - 65) + 10 = (((16 * (a : Int) + (b - 65 + 10)).toNat : Nat) : Int) by omega, Int.add_assoc]; exact (by first | exact Ent.refl _ _ | (simp only [Int.natCast_add, Int.natCast_one]; exact Ent.refl _ _))
    · simp only [Bool.or_eq_true, Bool.and_eq_true, Bool.or_eq_false_iff, Bool.and_eq_false_iff, decide_eq_true_eq, decide_eq_false_iff_not, Bool.not_eq_true', Bool.not_eq_false', beq_iff_eq, beq_eq_false_iff_ne, ne_eq, ge_iff_le, gt_iff_lt, Int.not_le, Int.not_lt, Int.ofNat_le, Int.ofNat_lt] at h1
      simp only [Bool.or_eq_true, Bool.and_eq_true, Bool.or_eq_false_iff, Bool.and_eq_false_iff, decide_eq_true_eq, decide_eq_false_iff_not, Bool.not_eq_true', Bool.not_eq_false', beq_iff_eq, beq_eq_false_iff_ne, ne_eq, ge_iff_le, gt_iff_lt, Int.not_le, Int.not_lt, Int.ofNat_le, Int.ofNat_lt] at h2
      simp only [Bool.or_eq_true, Bool.and_eq_true, Bool.or_eq_false_iff, Bool.and_eq_false_iff, decide_eq_true_eq, decide_eq_false_iff_not, Bool.not_eq_true', Bool.not_eq_false', beq_iff_eq, beq_eq_false_iff_ne, ne_eq, ge_iff_le, gt_iff_lt, Int.not_le, Int.not_lt, Int.ofNat_le, Int.ofNat_lt] at h3
      have hs := hxV_neg (s := s) (p := p.toNat + i) (n := m.toNat - (i + 1)) (a := a) (by rw [hbe, hxD_n (by omega) (by omega) (by omega)]; decide)
      rw [show m.toNat - (i + 1) + 1 = m.toNat - i by omega, hv] at hs
      rw [hs]
  · have hs : hxV s p.toNat m.toNat 0 = a := by rw [← hv, show m.toNat - i = 0 by omega]; rfl
    rw [hs]
noncomputable def pe_Hex_s : PE := peR (fun (x : Bs × Int × Int) => match x with | (s, p, m) => [.s s, .i .i64 p, .i .i64 m]) (fun (x : Bs × Int × Int) => match x with | (s, p, m) => s.length ≤ 1048576 ∧ 0 ≤ p ∧ p ≤ s.length + 9 ∧ 0 ≤ m ∧ m ≤ 8) (fun (x : Bs × Int × Int) => match x with | (s, p, m) => .i .i64 (hxV s p.toNat m.toNat 0))
theorem pe_Hex_s_eq {s : Bs} {p m : Int} : pe_Hex_s [.s s, .i .i64 p, .i .i64 m] = some (s.length ≤ 1048576 ∧ 0 ≤ p ∧ p ≤ s.length + 9 ∧ 0 ≤ m ∧ m ≤ 8, .i .i64 (hxV s p.toNat m.toNat 0)) := peR_eq (by rintro ⟨a0, a1, a2⟩ ⟨b0, b1, b2⟩ h; simp_all []) (s, p, m)
theorem pe_Hex_s_ok : PE1 Tryz.prog 111 pe_Hex_s := peR_ok (by rintro ⟨s, p, m⟩ hp; exact Hex_s s p m hp)
theorem mp_hx (b : Int) : (lookS (updS (updS (updS [] (120 : Int) 2) 117 4) 85 8) b).getD 0 = (hxN b : Int) := by
  unfold hxN
  by_cases h1 : b = 120
  · subst h1; rfl
  by_cases h2 : b = 117
  · subst h2; rfl
  by_cases h3 : b = 85
  · subst h3; rfl
  rw [if_neg h1, if_neg h2, if_neg h3]
  have e1 : ¬ (120 : Int) = b := fun e => h1 e.symm
  have e2 : ¬ (117 : Int) = b := fun e => h2 e.symm
  have e3 : ¬ (85 : Int) = b := fun e => h3 e.symm
  simp [updS, lookS, e1, e2, e3]
theorem EscapeAt_i (s : Bs) (p : Int) (hp : s.length ≤ 1048576) : PF Tryz.prog 106 [.s s, .i .i64 p] (.tup [.s (esA s (spot s p)).1, .i .i64 ((esA s (spot s p)).2 : Nat)]) := by
  refine ⟨rfl, rfl, FnK.of (cf := mkCf Tryz.prog te [(28, pe_spot_i), (51, pe_byteAt), (114, pe_shortEscape), (115, pe_RuneBytes_i), (116, pe_hexValue)] 67 0 false (fun _ => false) (kp [(0, [0, 1]), (1, [0, 1]), (2, [0, 1, 25]), (3, [4, 5]), (4, [0, 1, 6]), (5, [0, 1, 6, 7]), (6, [0, 1, 6, 7, 33]), (7, [4, 5]), (8, [0, 1, 8]), (9, [1, 8, 9, 10]), (10, [1, 8, 10, 11]), (11, [1, 8, 11, 61]), (12, [4, 5]), (13, [4, 5])]) [] []) (mkCf_ok te_ok (l := [(28, pe_spot_i), (51, pe_byteAt), (114, pe_shortEscape), (115, pe_RuneBytes_i), (116, pe_hexValue)]) (⟨pe_spot_i_ok, pe_byteAt_ok, pe_shortEscape_ok, pe_RuneBytes_i_ok, pe_hexValue_ok, trivial⟩) mixed_ok) Tryz.func106 rfl rfl rfl (by simp [mkCf]) (by simp [mkCf]) (rs := [.tmp 4, .tmp 5]) rfl 100000 ?_⟩
  simp only [↓XC, XV, XT, forall_const, implies_true, reduceIte, Nat.reduceAdd, Nat.reduceLT, Nat.reduceEqDiff, Nat.reduceBEq, Nat.reduceLeDiff, reduceCtorEq, Nat.reduceSub, Nat.reduceMul, Int.reduceToNat, Int.reduceLT, Int.reduceLE, TES, pe_spot_i_eq, pe_byteAt_eq, pe_shortEscape_eq, pe_RuneBytes_i_eq, pe_hexValue_eq]
  have h0 := spot_le s p
  rw [spot_of s h0]
  have e0 : ((spot s p : Nat) + 1 : Int).toNat = spot s p + 1 := by omega
  have e1 : byt s (spot s ((spot s p : Nat) + 1 : Int)) = byt s (spot s p + 1) := by rw [byt_spot (by omega), e0]
  have e2 : ((spot s p : Nat) + 2 : Int).toNat = spot s p + 2 := by omega
  rw [e1, e2]
  simp only [mp_hx, Int.toNat_natCast]
  generalize spot s p = q at *
  have hr := byt_range s (q + 1)
  have hn := hxN_le (byt s (q + 1))
  refine Chk.mk hp fun _ => Chk.mk (fun _ => by simp only [inR]; omega) fun _ => ⟨fun h => ?_, fun h => Chk.mk (by simp only [inR]; omega) fun _ => Chk.mk hp fun _ => Chk.mk hr fun _ => ?_⟩
  · rw [esA_bad (by simp only [Bool.or_eq_true, Bool.and_eq_true, Bool.or_eq_false_iff, Bool.and_eq_false_iff, decide_eq_true_eq, decide_eq_false_iff_not, Bool.not_eq_true', Bool.not_eq_false', beq_iff_eq, beq_eq_false_iff_ne, ne_eq, ge_iff_le, gt_iff_lt, Int.not_le, Int.not_lt, Int.ofNat_le, Int.ofNat_lt] at h; omega)]; rfl
  have hb : byt s q = 92 ∧ q + 1 < s.length := by simp only [Bool.or_eq_true, Bool.and_eq_true, Bool.or_eq_false_iff, Bool.and_eq_false_iff, decide_eq_true_eq, decide_eq_false_iff_not, Bool.not_eq_true', Bool.not_eq_false', beq_iff_eq, beq_eq_false_iff_ne, ne_eq, ge_iff_le, gt_iff_lt, Int.not_le, Int.not_lt, Int.ofNat_le, Int.ofNat_lt] at h; omega
  refine ⟨fun h1 => Chk.mk (by simp only [inR]; omega) fun _ => ?_, fun h1 => Chk.mk (by simp only [inR]; omega) fun _ => Chk.mk ⟨hp, by omega, by omega, by omega, by omega⟩ fun _ => ⟨fun h2 => ?_, fun h2 => Chk.mk (by simp only [inR]; omega) fun _ => Chk.mk (by simp only [inR]; omega) fun _ => ?_⟩⟩
  · rw [esA_short hb h1]; simp
  · rw [esA_no hb h1]; rfl
    simp only [Bool.or_eq_true, Bool.and_eq_true, Bool.or_eq_false_iff, Bool.and_eq_false_iff, decide_eq_true_eq, decide_eq_false_iff_not, Bool.not_eq_true', Bool.not_eq_false', beq_iff_eq, beq_eq_false_iff_ne, ne_eq, ge_iff_le, gt_iff_lt, Int.not_le, Int.not_lt, Int.ofNat_le, Int.ofNat_lt] at h2
    rcases h2 with (h2 | h2) | h2
    · exact .inl (by omega)
    · exact .inr (rnB_bad (.inl h2))
    · right
      by_cases h3 : hxV s (q + 2) (hxN (byt s (q + 1))) 0 < 0
      · exact rnB_bad (.inl h3)
      · rw [if_neg h3] at h2; exact h2
  · simp only [Bool.or_eq_true, Bool.and_eq_true, Bool.or_eq_false_iff, Bool.and_eq_false_iff, decide_eq_true_eq, decide_eq_false_iff_not, Bool.not_eq_true', Bool.not_eq_false', beq_iff_eq, beq_eq_false_iff_ne, ne_eq, ge_iff_le, gt_iff_lt, Int.not_le, Int.not_lt, Int.ofNat_le, Int.ofNat_lt] at h2
    rw [if_neg (by omega)] at h2 ⊢
    rw [esA_hex hb h1 (by rintro (h3 | h3); exact h2.1.1 (by omega); exact h2.2 h3)]
    simp
noncomputable def pe_EscapeAt_i : PE := peR (fun (x : Bs × Int) => match x with | (s, p) => [.s s, .i .i64 p]) (fun (x : Bs × Int) => match x with | (s, p) => s.length ≤ 1048576) (fun (x : Bs × Int) => match x with | (s, p) => .tup [.s (esA s (spot s p)).1, .i .i64 ((esA s (spot s p)).2 : Nat)])
theorem pe_EscapeAt_i_eq {s : Bs} {p : Int} : pe_EscapeAt_i [.s s, .i .i64 p] = some (s.length ≤ 1048576, .tup [.s (esA s (spot s p)).1, .i .i64 ((esA s (spot s p)).2 : Nat)]) := peR_eq (by rintro ⟨a0, a1⟩ ⟨b0, b1⟩ h; simp_all []) (s, p)
theorem pe_EscapeAt_i_ok : PE1 Tryz.prog 106 pe_EscapeAt_i := peR_ok (by rintro ⟨s, p⟩ hp; exact EscapeAt_i s p hp)
theorem EscapeAt_s (s : Bs) (p : Int) (hp : s.length ≤ 1048576) : PF Tryz.prog 96 [.s s, .i .i64 p] (.tup [.s (esA s (spot s p)).1, .i .i64 ((esA s (spot s p)).2 : Nat)]) := by
  refine ⟨rfl, rfl, FnK.of (cf := mkCf Tryz.prog te [(9, pe_spot_s), (110, pe_RuneBytes_s), (111, pe_Hex_s)] 72 0 false (fun _ => false) (kp [(0, [0, 1]), (1, [0, 1]), (2, [0, 1, 25]), (3, [4, 5]), (4, [0, 1, 6]), (5, [0, 1, 6, 31, 32, 33]), (6, [0, 1, 6, 31, 32, 33, 34]), (7, [0, 1, 6, 7, 8, 31, 32, 33]), (8, [0, 1, 6, 7, 31, 32, 33, 40]), (9, [1, 9]), (10, [4, 5]), (11, [0, 1, 6, 31, 32, 33]), (12, [0, 1, 6, 10]), (13, [0, 1, 10, 50]), (14, [0, 1, 10, 50, 51]), (15, [0, 1, 10]), (16, [0, 1, 10, 50, 53]), (17, [0, 1, 10]), (18, [0, 1, 10, 55]), (19, [0, 1, 10]), (20, [0, 1, 10, 58]), (21, [4, 5]), (22, [1, 10, 11]), (23, [1, 10, 11, 66]), (24, [4, 5]), (25, [4, 5])]) [] []) (mkCf_ok te_ok (l := [(9, pe_spot_s), (110, pe_RuneBytes_s), (111, pe_Hex_s)]) (⟨pe_spot_s_ok, pe_RuneBytes_s_ok, pe_Hex_s_ok, trivial⟩) mixed_ok) Tryz.func96 rfl rfl rfl (by simp [mkCf]) (by simp [mkCf]) (rs := [.tmp 4, .tmp 5]) rfl 100000 ?_⟩
  simp only [↓XC, XV, XT, forall_const, implies_true, reduceIte, Nat.reduceAdd, Nat.reduceLT, Nat.reduceEqDiff, Nat.reduceBEq, Nat.reduceLeDiff, reduceCtorEq, Nat.reduceSub, Nat.reduceMul, Int.reduceToNat, Int.reduceLT, Int.reduceLE, TES, pe_spot_s_eq, pe_RuneBytes_s_eq, pe_Hex_s_eq]
  have h0 := spot_le s p
  have e0 : ((spot s p : Nat) + 1 : Int).toNat = spot s p + 1 := by omega
  rw [e0]
  generalize spot s p = q at *
  refine Chk.mk (by simp only [inR]; omega) fun _ => Chk.mk (fun h => by simp only [Bool.or_eq_true, Bool.and_eq_true, Bool.or_eq_false_iff, Bool.and_eq_false_iff, decide_eq_true_eq, decide_eq_false_iff_not, Bool.not_eq_true', Bool.not_eq_false', beq_iff_eq, beq_eq_false_iff_ne, ne_eq, ge_iff_le, gt_iff_lt, Int.not_le, Int.not_lt, Int.ofNat_le, Int.ofNat_lt] at h; omega) fun _ => ⟨fun h => ?_, fun h => Chk.mk (by simp only [inR]; omega) fun _ => Chk.mk (by simp only [Bool.or_eq_true, Bool.and_eq_true, Bool.or_eq_false_iff, Bool.and_eq_false_iff, decide_eq_true_eq, decide_eq_false_iff_not, Bool.not_eq_true', Bool.not_eq_false', beq_iff_eq, beq_eq_false_iff_ne, ne_eq, ge_iff_le, gt_iff_lt, Int.not_le, Int.not_lt, Int.ofNat_le, Int.ofNat_lt] at h; omega) fun _ => ?_⟩
  · rw [esA_bad (by rintro ⟨h1, h2⟩; rw [byt_lt (by omega)] at h1; simp only [Bool.or_eq_true, Bool.and_eq_true, Bool.or_eq_false_iff, Bool.and_eq_false_iff, decide_eq_true_eq, decide_eq_false_iff_not, Bool.not_eq_true', Bool.not_eq_false', beq_iff_eq, beq_eq_false_iff_ne, ne_eq, ge_iff_le, gt_iff_lt, Int.not_le, Int.not_lt, Int.ofNat_le, Int.ofNat_lt] at h; omega)]; rfl
  have hb : byt s q = 92 ∧ q + 1 < s.length := by simp only [Bool.or_eq_true, Bool.and_eq_true, Bool.or_eq_false_iff, Bool.and_eq_false_iff, decide_eq_true_eq, decide_eq_false_iff_not, Bool.not_eq_true', Bool.not_eq_false', beq_iff_eq, beq_eq_false_iff_ne, ne_eq, ge_iff_le, gt_iff_lt, Int.not_le, Int.not_lt, Int.ofNat_le, Int.ofNat_lt] at h; exact ⟨by rw [byt_lt (by omega)]; omega, by omega⟩
  rw [← byt_lt hb.2]
  rw [xmem_conv]
  refine cvO_of rfl (by rfl) rfl (by rfl) (by decide) ?_
  simp only [putS_s, ↓XC, XV, XT, forall_const, implies_true, reduceIte, Nat.reduceAdd, Nat.reduceLT, Nat.reduceEqDiff, Nat.reduceBEq, Nat.reduceLeDiff, reduceCtorEq, Nat.reduceSub, Nat.reduceMul, Int.reduceToNat, Int.reduceLT, Int.reduceLE, TES]
  refine VLoops.of (ι := {i : Nat // i ≤ 18 ∧ ∀ j, j < i → (shL.getD j (0, 0)).1 ≠ byt s (q + 1)}) (fun x => ⟨[(0, .s s), (1, .i .i64 (q : Nat)), (6, .i .u8 (byt s (q + 1))), (31, .slc 0 0 18), (32, .i .i64 18), (33, .i .i64 (x.1 : Nat))], [some (.row false 1 18 (rowE bytc 0 ([48, 97, 98, 116, 9, 110, 118, 102, 114, 101, 32, 34, 47, 92, 78, 95, 76, 80] : List UInt8)))]⟩) (fun x => 18 - x.1) ⟨0, Nat.zero_le _, fun j hj => absurd hj (Nat.not_lt_zero _)⟩ (Ent.ren1 [0] (by decide) (by simp only [entCtx, at_cons_zero, at_cons_succ, and_true, true_and]; exact soLe_row fun j hj => (mapHL_plain (by rfl)).trans (litEl_bytes (b := ([48, 97, 98, 116, 9, 110, 118, 102, 114, 101, 32, 34, 47, 92, 78, 95, 76, 80] : List UInt8)) (by rfl) j hj).symm) (by simp [entEnv, Vg.look, SV.mapH, muL])) ?_
  rintro ⟨i, hi, hj⟩
  simp only [↓XC, XV, XT, forall_const, implies_true, reduceIte, Nat.reduceAdd, Nat.reduceLT, Nat.reduceEqDiff, Nat.reduceBEq, Nat.reduceLeDiff, reduceCtorEq, Nat.reduceSub, Nat.reduceMul, Int.reduceToNat, Int.reduceLT, Int.reduceLE, TES, pe_RuneBytes_s_eq, pe_Hex_s_eq, XR]
  have hA : ∀ i, i < 18 → ((([48, 97, 98, 116, 9, 110, 118, 102, 114, 101, 32, 34, 47, 92, 78, 95, 76, 80] : List UInt8).getD i 0).toNat : Int) = (shL.getD i (0, 0)).1 := by decide
  have hB : ∀ i, i < 18 → (([0, 7, 8, 9, 9, 10, 11, 12, 13, 27, 32, 34, 47, 92, 133, 160, 8232, 8233] : List Int).getD i 0) = (shL.getD i (0, 0)).2 ∧ 0 ≤ (shL.getD i (0, 0)).2 := by decide
  have e2 : ((q : Nat) + 2 : Int).toNat = q + 2 := by omega
  rw [e2]
  refine ⟨fun hil => Chk.mk (by omega) fun _ => Chk.mk (by omega) fun _ => ⟨fun he => Chk.mk (by omega) fun _ => Chk.mk (by omega) fun _ => ?_, fun he => Chk.mk (by simp only [inR]; omega) fun _ => ⟨⟨i + 1, by omega, ?_⟩, by simp only; omega, (Ent.ren1 [0] (by decide) (by simp only [entCtx, at_cons_zero, at_cons_succ, and_true, true_and]; exact soLe_same fun _ => rfl) (by simp [entEnv, Vg.look, SV.mapH, muL]))⟩⟩, fun hil => ?_⟩
  · have hi18 : i < 18 := by omega
    rw [litEl_i64 (b := [0, 7, 8, 9, 9, 10, 11, 12, 13, 27, 32, 34, 47, 92, 133, 160, 8232, 8233]) (by rfl) hi18, (hB i hi18).1]
    simp only [↓XC, XV, XT, forall_const, implies_true, reduceIte, Nat.reduceAdd, Nat.reduceLT, Nat.reduceEqDiff, Nat.reduceBEq, Nat.reduceLeDiff, reduceCtorEq, Nat.reduceSub, Nat.reduceMul, Int.reduceToNat, Int.reduceLT, Int.reduceLE, TES, pe_RuneBytes_s_eq, XR]
    rw [hA i hi18] at he
    have hs := shE_at hi18 he.symm hj
    rw [esA_short hb (by rw [hs]; exact (hB i hi18).2), hs]
    exact Chk.mk (by simp only [inR]; omega) fun _ => by simp
  · intro j hjj
    rcases Nat.lt_or_ge j i with h1 | h1
    · exact hj j h1
    · obtain rfl : j = i := by omega
      rw [← hA j (by omega)]; exact fun e => he e.symm
  · have hs : ¬ 0 ≤ shE (byt s (q + 1)) := by
      rw [shE_none]; decide
      intro p hp
      obtain ⟨j, hj1, rfl⟩ := List.mem_iff_getElem.1 hp
      have := hj j (by have : shL.length = 18 := rfl; omega)
      simpa [List.getD, hj1] using this
    have hN : hxN (byt s (q + 1)) = if byt s (q + 1) = 120 then 2 else if byt s (q + 1) = 117 then 4 else if byt s (q + 1) = 85 then 8 else 0 := rfl
    have FIN : ∀ n : Nat, hxN (byt s (q + 1)) = n → (rnB (hxV s (q + 2) n 0) = [] → SV.tup [SV.s [], SV.i .i64 0] = SV.tup [SV.s (esA s q).1, SV.i .i64 ((esA s q).2 : Nat)]) ∧ (n ≠ 0 → ¬ rnB (hxV s (q + 2) n 0) = [] → SV.tup [SV.s (rnB (hxV s (q + 2) n 0)), SV.i .i64 ((q : Int) + 2 + n)] = SV.tup [SV.s (esA s q).1, SV.i .i64 ((esA s q).2 : Nat)]) := by
      rintro n rfl
      refine ⟨fun h1 => by rw [esA_no hb hs (.inr h1)]; rfl, fun h0 h1 => by rw [esA_hex hb hs (by rintro (h2 | h2); exact h0 h2; exact h1 h2)]; simp⟩
    have W : ∀ n : Nat, n ≤ 8 → n ≠ 0 → hxN (byt s (q + 1)) = n → ((n : Int) = 0 → SV.tup [SV.s [], SV.i .i64 0] = SV.tup [SV.s (esA s q).1, SV.i .i64 ((esA s q).2 : Nat)]) ∧ (¬ (n : Int) = 0 → Chk (inR IntKind.i64 ((q : Int) + 2)) (Chk (s.length ≤ 1048576 ∧ 0 ≤ (q : Int) + 2 ∧ (q : Int) + 2 ≤ s.length + 9) ((rnB (hxV s (q + 2) n 0) = [] → SV.tup [SV.s [], SV.i .i64 0] = SV.tup [SV.s (esA s q).1, SV.i .i64 ((esA s q).2 : Nat)]) ∧ (¬ rnB (hxV s (q + 2) n 0) = [] → Chk (inR IntKind.i64 ((q : Int) + 2)) (Chk (inR IntKind.i64 ((q : Int) + 2 + n)) (SV.tup [SV.s (rnB (hxV s (q + 2) n 0)), SV.i .i64 ((q : Int) + 2 + n)] = SV.tup [SV.s (esA s q).1, SV.i .i64 ((esA s q).2 : Nat)])))))) := by
      intro n h8 h0 hn
      exact ⟨fun h => absurd h (by omega), fun _ => Chk.mk (by simp only [inR]; omega) fun _ => Chk.mk ⟨hp, by omega, by omega⟩ fun _ => ⟨(FIN n hn).1, fun h => Chk.mk (by simp only [inR]; omega) fun _ => Chk.mk (by simp only [inR]; omega) fun _ => (FIN n hn).2 h0 h⟩⟩
    refine ⟨fun h1 => W 2 (by omega) (by omega) (by rw [hN, if_pos h1]), fun h1 => ⟨fun h2 => W 4 (by omega) (by omega) (by rw [hN, if_neg h1, if_pos h2]), fun h2 => ⟨fun h3 => W 8 (by omega) (by omega) (by rw [hN, if_neg h1, if_neg h2, if_pos h3]), fun h3 => ?_⟩⟩⟩
    rw [esA_no hb hs (.inl (by rw [hN, if_neg h1, if_neg h2, if_neg h3]))]; rfl
noncomputable def pe_EscapeAt_s : PE := peR (fun (x : Bs × Int) => match x with | (s, p) => [.s s, .i .i64 p]) (fun (x : Bs × Int) => match x with | (s, p) => s.length ≤ 1048576) (fun (x : Bs × Int) => match x with | (s, p) => .tup [.s (esA s (spot s p)).1, .i .i64 ((esA s (spot s p)).2 : Nat)])
theorem pe_EscapeAt_s_eq {s : Bs} {p : Int} : pe_EscapeAt_s [.s s, .i .i64 p] = some (s.length ≤ 1048576, .tup [.s (esA s (spot s p)).1, .i .i64 ((esA s (spot s p)).2 : Nat)]) := peR_eq (by rintro ⟨a0, a1⟩ ⟨b0, b1⟩ h; simp_all []) (s, p)
theorem pe_EscapeAt_s_ok : PE1 Tryz.prog 96 pe_EscapeAt_s := peR_ok (by rintro ⟨s, p⟩ hp; exact EscapeAt_s s p hp)
end Go.T61
