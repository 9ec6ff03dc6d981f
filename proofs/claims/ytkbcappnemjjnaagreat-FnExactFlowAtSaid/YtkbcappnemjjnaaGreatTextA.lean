/- Own text: part TextA. -/
import Derived.Test.YtkbcappnemjjnaaGreatBaseE
import Derived.Test.YtkbcappnemjjnaaGreatTypes2
set_option linter.unusedVariables false
set_option linter.unusedSimpArgs false
namespace Go.T8
open Go.Proofs Go.Vg Go.RowKit Go.TT Go.Pl 
set_option linter.unusedVariables false
set_option linter.unusedSimpArgs false
set_option maxRecDepth 10000
set_option maxHeartbeats 4000000
theorem pe_ixb_ok : PE1 Tryz.prog 112 pe_ix := pe_ix_ok (ext_idx Tryz.func112 rfl rfl (by kernel_rfl) (by kernel_rfl))
noncomputable def pe_ixb := pe_ix
theorem pe_ixb_eq {s : List UInt8} {c : Int} : pe_ixb [.s s, .i .u8 c] = some (True, .i .i64 (Pl.idx s (UInt8.ofNat c.toNat))) := pe_ix_eq
theorem ixl (s : List UInt8) (c : Int) : PF Tryz.prog 98 [.s s, .i .u8 c] (.i .i64 (Pl.idx s (UInt8.ofNat c.toNat))) := by
  refine ⟨rfl, rfl, FnK.of (cf := mkCf Tryz.prog te [(112, pe_ixb)] 8 0 false (fun _ => false) (kp [(0, [0, 1]), (1, [4])]) [] []) (mkCf_ok te_ok (l := [(112, pe_ixb)]) (⟨pe_ixb_ok, trivial⟩) mixed_ok) Tryz.func98 rfl rfl rfl (by simp [mkCf]) (by simp [mkCf]) (rs := [.tmp 4]) rfl 100000 ?_⟩
  simp only [↓XC, XV, XT, forall_const, implies_true, reduceIte, Nat.reduceAdd, Nat.reduceLT, Nat.reduceEqDiff, Nat.reduceBEq, Nat.reduceLeDiff, reduceCtorEq, Nat.reduceSub, Nat.reduceMul, Int.reduceToNat, Int.reduceLT, Int.reduceLE, TES, pe_ixb_eq]

noncomputable def pe_ixl : PE := peR (fun (x : List UInt8 × Int) => match x with | (s, c) => [.s s, .i .u8 c]) (fun (x : List UInt8 × Int) => match x with | (s, c) => True) (fun (x : List UInt8 × Int) => match x with | (s, c) => .i .i64 (Pl.idx s (UInt8.ofNat c.toNat)))
theorem pe_ixl_eq {s : List UInt8} {c : Int} : pe_ixl [.s s, .i .u8 c] = some (True, .i .i64 (Pl.idx s (UInt8.ofNat c.toNat))) := peR_eq (by rintro ⟨a0, a1⟩ ⟨b0, b1⟩ h; simp_all []) (s, c)
theorem pe_ixl_ok : PE1 Tryz.prog 98 pe_ixl := peR_ok (by rintro ⟨s, c⟩ hp; exact ixl s c)
theorem ixs (s : List UInt8) (c : Int) : PF Tryz.prog 79 [.s s, .i .u8 c] (.i .i64 (Pl.idx s (UInt8.ofNat c.toNat))) := by
  refine ⟨rfl, rfl, FnK.of (cf := mkCf Tryz.prog te [(98, pe_ixl)] 8 0 false (fun _ => false) (kp [(0, [0, 1]), (1, [4])]) [] []) (mkCf_ok te_ok (l := [(98, pe_ixl)]) (⟨pe_ixl_ok, trivial⟩) mixed_ok) Tryz.func79 rfl rfl rfl (by simp [mkCf]) (by simp [mkCf]) (rs := [.tmp 4]) rfl 100000 ?_⟩
  simp only [↓XC, XV, XT, forall_const, implies_true, reduceIte, Nat.reduceAdd, Nat.reduceLT, Nat.reduceEqDiff, Nat.reduceBEq, Nat.reduceLeDiff, reduceCtorEq, Nat.reduceSub, Nat.reduceMul, Int.reduceToNat, Int.reduceLT, Int.reduceLE, TES, pe_ixl_eq]

noncomputable def pe_ixs : PE := peR (fun (x : List UInt8 × Int) => match x with | (s, c) => [.s s, .i .u8 c]) (fun (x : List UInt8 × Int) => match x with | (s, c) => True) (fun (x : List UInt8 × Int) => match x with | (s, c) => .i .i64 (Pl.idx s (UInt8.ofNat c.toNat)))
theorem pe_ixs_eq {s : List UInt8} {c : Int} : pe_ixs [.s s, .i .u8 c] = some (True, .i .i64 (Pl.idx s (UInt8.ofNat c.toNat))) := peR_eq (by rintro ⟨a0, a1⟩ ⟨b0, b1⟩ h; simp_all []) (s, c)
theorem pe_ixs_ok : PE1 Tryz.prog 79 pe_ixs := peR_ok (by rintro ⟨s, c⟩ hp; exact ixs s c)
theorem within (x lo hi : Int) : PF Tryz.prog 101 [.i .i64 x, .i .i64 lo, .i .i64 hi] (.b (decide (lo ≤ x) && decide (x ≤ hi))) := by
  refine ⟨rfl, rfl, FnK.of (cf := mkCf Tryz.prog te [] 15 0 false (fun _ => false) (kp [(0, [0, 1, 2]), (1, [6])]) [] []) (mkCf_ok te_ok (l := []) (trivial) mixed_ok) Tryz.func101 rfl rfl rfl (by simp [mkCf]) (by simp [mkCf]) (rs := [.tmp 6]) rfl 100000 ?_⟩
  simp only [↓XC, XV, XT, forall_const, implies_true, reduceIte, Nat.reduceAdd, Nat.reduceLT, Nat.reduceEqDiff, Nat.reduceBEq, Nat.reduceLeDiff, reduceCtorEq, Nat.reduceSub, Nat.reduceMul, Int.reduceToNat, Int.reduceLT, Int.reduceLE, TES]

noncomputable def pe_within : PE := peR (fun (x : Int × Int × Int) => match x with | (x, lo, hi) => [.i .i64 x, .i .i64 lo, .i .i64 hi]) (fun (x : Int × Int × Int) => match x with | (x, lo, hi) => True) (fun (x : Int × Int × Int) => match x with | (x, lo, hi) => .b (decide (lo ≤ x) && decide (x ≤ hi)))
theorem pe_within_eq {x lo hi : Int} : pe_within [.i .i64 x, .i .i64 lo, .i .i64 hi] = some (True, .b (decide (lo ≤ x) && decide (x ≤ hi))) := peR_eq (by rintro ⟨a0, a1, a2⟩ ⟨b0, b1, b2⟩ h; simp_all []) (x, lo, hi)
theorem pe_within_ok : PE1 Tryz.prog 101 pe_within := peR_ok (by rintro ⟨x, lo, hi⟩ hp; exact within x lo hi)
theorem spot_i (s : Bs) (p : Int) : PF Tryz.prog 28 [.s s, .i .i64 p] (.i .i64 (spot s p : Nat)) := by
  refine ⟨rfl, rfl, FnK.of (cf := mkCf Tryz.prog te [] 10 0 false (fun _ => false) (kp [(0, [0, 1]), (1, [4])]) [] []) (mkCf_ok te_ok (l := []) (trivial) mixed_ok) Tryz.func28 rfl rfl rfl (by simp [mkCf]) (by simp [mkCf]) (rs := [.tmp 4]) rfl 100000 ?_⟩
  simp only [↓XC, XV, XT, forall_const, implies_true, reduceIte, Nat.reduceAdd, Nat.reduceLT, Nat.reduceEqDiff, Nat.reduceBEq, Nat.reduceLeDiff, reduceCtorEq, Nat.reduceSub, Nat.reduceMul, Int.reduceToNat, Int.reduceLT, Int.reduceLE, TES]
  simp only [SV.i.injEq, true_and]
  unfold spot
  repeat' split
  all_goals omega
noncomputable def pe_spot_i : PE := peR (fun (x : Bs × Int) => match x with | (s, p) => [.s s, .i .i64 p]) (fun (x : Bs × Int) => match x with | (s, p) => True) (fun (x : Bs × Int) => match x with | (s, p) => .i .i64 (spot s p : Nat))
theorem pe_spot_i_eq {s : Bs} {p : Int} : pe_spot_i [.s s, .i .i64 p] = some (True, .i .i64 (spot s p : Nat)) := peR_eq (by rintro ⟨a0, a1⟩ ⟨b0, b1⟩ h; simp_all []) (s, p)
theorem pe_spot_i_ok : PE1 Tryz.prog 28 pe_spot_i := peR_ok (by rintro ⟨s, p⟩ hp; exact spot_i s p)
theorem byteAt (s : Bs) (p : Int) (hp : s.length ≤ 1048576) : PF Tryz.prog 51 [.s s, .i .i64 p] (.i .i64 (byt s (spot s p))) := by
  refine ⟨rfl, rfl, FnK.of (cf := mkCf Tryz.prog te [(28, pe_spot_i)] 16 0 false (fun _ => false) (kp [(0, [0, 1]), (1, [0, 1]), (2, [0, 1, 11]), (3, [4]), (4, [4])]) [] []) (mkCf_ok te_ok (l := [(28, pe_spot_i)]) (⟨pe_spot_i_ok, trivial⟩) mixed_ok) Tryz.func51 rfl rfl rfl (by simp [mkCf]) (by simp [mkCf]) (rs := [.tmp 4]) rfl 100000 ?_⟩
  simp only [↓XC, XV, XT, forall_const, implies_true, reduceIte, Nat.reduceAdd, Nat.reduceLT, Nat.reduceEqDiff, Nat.reduceBEq, Nat.reduceLeDiff, reduceCtorEq, Nat.reduceSub, Nat.reduceMul, Int.reduceToNat, Int.reduceLT, Int.reduceLE, TES, pe_spot_i_eq]
  have h1 := spot_le s p
  have h2 := (s.getD (spot s p) 0).toNat_lt
  exact ⟨fun h => by rw [byt_ge (by omega)], fun h => Chk.mk (by omega) fun _ => Chk.mk (by simp only [inR]; omega) fun _ => by rw [byt_lt (by omega)]⟩
noncomputable def pe_byteAt : PE := peR (fun (x : Bs × Int) => match x with | (s, p) => [.s s, .i .i64 p]) (fun (x : Bs × Int) => match x with | (s, p) => s.length ≤ 1048576) (fun (x : Bs × Int) => match x with | (s, p) => .i .i64 (byt s (spot s p)))
theorem pe_byteAt_eq {s : Bs} {p : Int} : pe_byteAt [.s s, .i .i64 p] = some (s.length ≤ 1048576, .i .i64 (byt s (spot s p))) := peR_eq (by rintro ⟨a0, a1⟩ ⟨b0, b1⟩ h; simp_all []) (s, p)
theorem pe_byteAt_ok : PE1 Tryz.prog 51 pe_byteAt := peR_ok (by rintro ⟨s, p⟩ hp; exact byteAt s p hp)
theorem isWhite (b : Int) : PF Tryz.prog 52 [.i .i64 b] (.b (b == 32 || b == 9)) := by
  refine ⟨rfl, rfl, FnK.of (cf := mkCf Tryz.prog te [] 9 0 false (fun _ => false) (kp [(0, [0]), (1, [2])]) [] []) (mkCf_ok te_ok (l := []) (trivial) mixed_ok) Tryz.func52 rfl rfl rfl (by simp [mkCf]) (by simp [mkCf]) (rs := [.tmp 2]) rfl 100000 ?_⟩
  simp only [↓XC, XV, XT, forall_const, implies_true, reduceIte, Nat.reduceAdd, Nat.reduceLT, Nat.reduceEqDiff, Nat.reduceBEq, Nat.reduceLeDiff, reduceCtorEq, Nat.reduceSub, Nat.reduceMul, Int.reduceToNat, Int.reduceLT, Int.reduceLE, TES]
  rfl
noncomputable def pe_isWhite : PE := peR (fun (b : Int) => [.i .i64 b]) (fun (b : Int) => True) (fun (b : Int) => .b (b == 32 || b == 9))
theorem pe_isWhite_eq {b : Int} : pe_isWhite [.i .i64 b] = some (True, .b (b == 32 || b == 9)) := peR_eq (by rintro a b h; simp_all []) b
theorem pe_isWhite_ok : PE1 Tryz.prog 52 pe_isWhite := peR_ok (by rintro b hp; exact isWhite b)
theorem isBreak (b : Int) : PF Tryz.prog 99 [.i .i64 b] (.b (b == 10 || decide (b < 0))) := by
  refine ⟨rfl, rfl, FnK.of (cf := mkCf Tryz.prog te [] 9 0 false (fun _ => false) (kp [(0, [0]), (1, [2])]) [] []) (mkCf_ok te_ok (l := []) (trivial) mixed_ok) Tryz.func99 rfl rfl rfl (by simp [mkCf]) (by simp [mkCf]) (rs := [.tmp 2]) rfl 100000 ?_⟩
  simp only [↓XC, XV, XT, forall_const, implies_true, reduceIte, Nat.reduceAdd, Nat.reduceLT, Nat.reduceEqDiff, Nat.reduceBEq, Nat.reduceLeDiff, reduceCtorEq, Nat.reduceSub, Nat.reduceMul, Int.reduceToNat, Int.reduceLT, Int.reduceLE, TES]
  rfl
noncomputable def pe_isBreak : PE := peR (fun (b : Int) => [.i .i64 b]) (fun (b : Int) => True) (fun (b : Int) => .b (b == 10 || decide (b < 0)))
theorem pe_isBreak_eq {b : Int} : pe_isBreak [.i .i64 b] = some (True, .b (b == 10 || decide (b < 0))) := peR_eq (by rintro a b h; simp_all []) b
theorem pe_isBreak_ok : PE1 Tryz.prog 99 pe_isBreak := peR_ok (by rintro b hp; exact isBreak b)
theorem gapAt (s : Bs) (p : Int) (hp : s.length ≤ 1048576 ∧ 0 ≤ p) : PF Tryz.prog 80 [.s s, .i .i64 p] (.b (gap s p.toNat)) := by
  refine ⟨rfl, rfl, FnK.of (cf := mkCf Tryz.prog te [(51, pe_byteAt), (52, pe_isWhite), (99, pe_isBreak)] 15 0 false (fun _ => false) (kp [(0, [0, 1]), (1, [5]), (2, [4])]) [] []) (mkCf_ok te_ok (l := [(51, pe_byteAt), (52, pe_isWhite), (99, pe_isBreak)]) (⟨pe_byteAt_ok, pe_isWhite_ok, pe_isBreak_ok, trivial⟩) mixed_ok) Tryz.func80 rfl rfl rfl (by simp [mkCf]) (by simp [mkCf]) (rs := [.tmp 4]) rfl 100000 ?_⟩
  simp only [↓XC, XV, XT, forall_const, implies_true, reduceIte, Nat.reduceAdd, Nat.reduceLT, Nat.reduceEqDiff, Nat.reduceBEq, Nat.reduceLeDiff, reduceCtorEq, Nat.reduceSub, Nat.reduceMul, Int.reduceToNat, Int.reduceLT, Int.reduceLE, TES, pe_byteAt_eq, pe_isWhite_eq, pe_isBreak_eq]
  exact Chk.mk hp.1 fun _ => by simp only [gap, isW, isB, byt_spot hp.2]
noncomputable def pe_gapAt : PE := peR (fun (x : Bs × Int) => match x with | (s, p) => [.s s, .i .i64 p]) (fun (x : Bs × Int) => match x with | (s, p) => s.length ≤ 1048576 ∧ 0 ≤ p) (fun (x : Bs × Int) => match x with | (s, p) => .b (gap s p.toNat))
theorem pe_gapAt_eq {s : Bs} {p : Int} : pe_gapAt [.s s, .i .i64 p] = some (s.length ≤ 1048576 ∧ 0 ≤ p, .b (gap s p.toNat)) := peR_eq (by rintro ⟨a0, a1⟩ ⟨b0, b1⟩ h; simp_all []) (s, p)
theorem pe_gapAt_ok : PE1 Tryz.prog 80 pe_gapAt := peR_ok (by rintro ⟨s, p⟩ hp; exact gapAt s p hp)
theorem White_i (s : Bs) (p : Int) (hp : s.length ≤ 1048576) : PF Tryz.prog 85 [.s s, .i .i64 p] (.i .i64 (wh s (spot s p) : Nat)) := by
  refine ⟨rfl, rfl, FnK.of (cf := mkCf Tryz.prog te [(28, pe_spot_i), (51, pe_byteAt), (52, pe_isWhite)] 15 0 false (fun _ => false) (kp [(0, [0, 1]), (1, [0, 1]), (2, [0, 1, 11]), (3, [0, 1]), (4, [4])]) [] []) (mkCf_ok te_ok (l := [(28, pe_spot_i), (51, pe_byteAt), (52, pe_isWhite)]) (⟨pe_spot_i_ok, pe_byteAt_ok, pe_isWhite_ok, trivial⟩) mixed_ok) Tryz.func85 rfl rfl rfl (by simp [mkCf]) (by simp [mkCf]) (rs := [.tmp 4]) rfl 100000 ?_⟩
  simp only [↓XC, XV, XT, forall_const, implies_true, reduceIte, Nat.reduceAdd, Nat.reduceLT, Nat.reduceEqDiff, Nat.reduceBEq, Nat.reduceLeDiff, reduceCtorEq, Nat.reduceSub, Nat.reduceMul, Int.reduceToNat, Int.reduceLT, Int.reduceLE, TES, pe_spot_i_eq, pe_byteAt_eq, pe_isWhite_eq]
  refine VLoops.of (ι := {q : Nat // q ≤ s.length ∧ wh s q = wh s (spot s p)}) (fun x => ⟨[(0, .s s), (1, .i .i64 (x.1 : Nat))], []⟩) (fun x => s.length - x.1) ⟨spot s p, spot_le s p, rfl⟩ (Ent.refl _ _) ?_
  rintro ⟨q, hq, hw⟩
  simp only [↓XC, XV, XT, forall_const, implies_true, reduceIte, Nat.reduceAdd, Nat.reduceLT, Nat.reduceEqDiff, Nat.reduceBEq, Nat.reduceLeDiff, reduceCtorEq, Nat.reduceSub, Nat.reduceMul, Int.reduceToNat, Int.reduceLT, Int.reduceLE, TES, pe_isWhite_eq, pe_byteAt_eq]
  refine Chk.mk hp fun _ => ⟨fun h => Chk.mk (by simp only [inR]; omega) fun _ => ?_, fun h => ?_⟩
  · rw [spot_of s hq] at h; have hl := isW_lt h
    exact ⟨⟨q + 1, by omega, by rw [← wh_t h]; exact hw⟩, by simp only; omega, (by first | exact Ent.refl _ _ | (simp only [Int.natCast_add, Int.natCast_one]; exact Ent.refl _ _))⟩
  · rw [spot_of s hq] at h; rw [← hw, wh_f h]
noncomputable def pe_White_i : PE := peR (fun (x : Bs × Int) => match x with | (s, p) => [.s s, .i .i64 p]) (fun (x : Bs × Int) => match x with | (s, p) => s.length ≤ 1048576) (fun (x : Bs × Int) => match x with | (s, p) => .i .i64 (wh s (spot s p) : Nat))
theorem pe_White_i_eq {s : Bs} {p : Int} : pe_White_i [.s s, .i .i64 p] = some (s.length ≤ 1048576, .i .i64 (wh s (spot s p) : Nat)) := peR_eq (by rintro ⟨a0, a1⟩ ⟨b0, b1⟩ h; simp_all []) (s, p)
theorem pe_White_i_ok : PE1 Tryz.prog 85 pe_White_i := peR_ok (by rintro ⟨s, p⟩ hp; exact White_i s p hp)
theorem EndAt_i (s : Bs) (p : Int) (hp : s.length ≤ 1048576) : PF Tryz.prog 54 [.s s, .i .i64 p] (.i .i64 (en s (spot s p) : Nat)) := by
  refine ⟨rfl, rfl, FnK.of (cf := mkCf Tryz.prog te [(28, pe_spot_i), (79, pe_ixs)] 20 0 false (fun _ => false) (kp [(0, [0, 1]), (1, [0, 1]), (2, [0, 1, 5]), (3, [0, 1, 5, 14]), (4, [4]), (5, [4])]) [] []) (mkCf_ok te_ok (l := [(28, pe_spot_i), (79, pe_ixs)]) (⟨pe_spot_i_ok, pe_ixs_ok, trivial⟩) mixed_ok) Tryz.func54 rfl rfl rfl (by simp [mkCf]) (by simp [mkCf]) (rs := [.tmp 4]) rfl 100000 ?_⟩
  simp only [↓XC, XV, XT, forall_const, implies_true, reduceIte, Nat.reduceAdd, Nat.reduceLT, Nat.reduceEqDiff, Nat.reduceBEq, Nat.reduceLeDiff, reduceCtorEq, Nat.reduceSub, Nat.reduceMul, Int.reduceToNat, Int.reduceLT, Int.reduceLE, TES, pe_spot_i_eq, pe_ixs_eq]
  have h1 := spot_le s p
  have h2 := idx_en s (spot s p) h1
  have h3 := en_le s _ h1
  refine Chk.mk (by omega) fun _ => ⟨fun h => ?_, fun h => ?_⟩
  · rw [show UInt8.ofNat 10 = 10 from rfl] at h; rw [if_pos h] at h2; rw [h2]
  · rw [show UInt8.ofNat 10 = 10 from rfl] at h ⊢; rw [if_neg h] at h2; rw [h2]; exact Chk.mk (by simp only [inR]; omega) fun _ => rfl
noncomputable def pe_EndAt_i : PE := peR (fun (x : Bs × Int) => match x with | (s, p) => [.s s, .i .i64 p]) (fun (x : Bs × Int) => match x with | (s, p) => s.length ≤ 1048576) (fun (x : Bs × Int) => match x with | (s, p) => .i .i64 (en s (spot s p) : Nat))
theorem pe_EndAt_i_eq {s : Bs} {p : Int} : pe_EndAt_i [.s s, .i .i64 p] = some (s.length ≤ 1048576, .i .i64 (en s (spot s p) : Nat)) := peR_eq (by rintro ⟨a0, a1⟩ ⟨b0, b1⟩ h; simp_all []) (s, p)
theorem pe_EndAt_i_ok : PE1 Tryz.prog 54 pe_EndAt_i := peR_ok (by rintro ⟨s, p⟩ hp; exact EndAt_i s p hp)
theorem spot_s (s : Bs) (p : Int) : PF Tryz.prog 9 [.s s, .i .i64 p] (.i .i64 (spot s p : Nat)) := by
  refine ⟨rfl, rfl, FnK.of (cf := mkCf Tryz.prog te [] 14 0 false (fun _ => false) (kp [(0, [0, 1]), (1, [0, 1, 6]), (2, [4]), (3, [0, 1, 10]), (4, [4]), (5, [4])]) [] []) (mkCf_ok te_ok (l := []) (trivial) mixed_ok) Tryz.func9 rfl rfl rfl (by simp [mkCf]) (by simp [mkCf]) (rs := [.tmp 4]) rfl 100000 ?_⟩
  simp only [↓XC, XV, XT, forall_const, implies_true, reduceIte, Nat.reduceAdd, Nat.reduceLT, Nat.reduceEqDiff, Nat.reduceBEq, Nat.reduceLeDiff, reduceCtorEq, Nat.reduceSub, Nat.reduceMul, Int.reduceToNat, Int.reduceLT, Int.reduceLE, TES]
  repeat' (first | refine Chk.mk ?_ fun _ => ?_ | refine And.intro ?_ ?_ | intro _)
  all_goals (simp only [SV.i.injEq, true_and]; unfold spot; omega)
noncomputable def pe_spot_s : PE := peR (fun (x : Bs × Int) => match x with | (s, p) => [.s s, .i .i64 p]) (fun (x : Bs × Int) => match x with | (s, p) => True) (fun (x : Bs × Int) => match x with | (s, p) => .i .i64 (spot s p : Nat))
theorem pe_spot_s_eq {s : Bs} {p : Int} : pe_spot_s [.s s, .i .i64 p] = some (True, .i .i64 (spot s p : Nat)) := peR_eq (by rintro ⟨a0, a1⟩ ⟨b0, b1⟩ h; simp_all []) (s, p)
theorem pe_spot_s_ok : PE1 Tryz.prog 9 pe_spot_s := peR_ok (by rintro ⟨s, p⟩ hp; exact spot_s s p)
theorem White1_s (s : Bs) (p : Int) (hp : s.length ≤ 1048576 ∧ 0 ≤ p) : PF Tryz.prog 35 [.s s, .i .i64 p] (.b (isW s p.toNat)) := by
  refine ⟨rfl, rfl, FnK.of (cf := mkCf Tryz.prog te [] 21 0 false (fun _ => false) (kp [(0, [0, 1]), (1, [4])]) [] []) (mkCf_ok te_ok (l := []) (trivial) mixed_ok) Tryz.func35 rfl rfl rfl (by simp [mkCf]) (by simp [mkCf]) (rs := [.tmp 4]) rfl 100000 ?_⟩
  simp only [↓XC, XV, XT, forall_const, implies_true, reduceIte, Nat.reduceAdd, Nat.reduceLT, Nat.reduceEqDiff, Nat.reduceBEq, Nat.reduceLeDiff, reduceCtorEq, Nat.reduceSub, Nat.reduceMul, Int.reduceToNat, Int.reduceLT, Int.reduceLE, TES]
  have h0 : byt s p.toNat = if p < s.length then ((s.getD p.toNat 0).toNat : Int) else -1 := by
    split
    · exact byt_lt (by omega)
    · exact byt_ge (by omega)
  refine Chk.mk (fun h => ⟨hp.2, h⟩) fun _ => Chk.mk (fun h => ?_) fun _ => ?_
  · simp at h; exact ⟨hp.2, h.1⟩
  · simp only [isW, h0, SV.b.injEq]
    split
    · rename_i h; simp only [h, decide_true, Bool.true_and]; rfl
    · rename_i h; simp [h]
noncomputable def pe_White1_s : PE := peR (fun (x : Bs × Int) => match x with | (s, p) => [.s s, .i .i64 p]) (fun (x : Bs × Int) => match x with | (s, p) => s.length ≤ 1048576 ∧ 0 ≤ p) (fun (x : Bs × Int) => match x with | (s, p) => .b (isW s p.toNat))
theorem pe_White1_s_eq {s : Bs} {p : Int} : pe_White1_s [.s s, .i .i64 p] = some (s.length ≤ 1048576 ∧ 0 ≤ p, .b (isW s p.toNat)) := peR_eq (by rintro ⟨a0, a1⟩ ⟨b0, b1⟩ h; simp_all []) (s, p)
theorem pe_White1_s_ok : PE1 Tryz.prog 35 pe_White1_s := peR_ok (by rintro ⟨s, p⟩ hp; exact White1_s s p hp)
theorem Break_s (s : Bs) (p : Int) (hp : s.length ≤ 1048576 ∧ 0 ≤ p) : PF Tryz.prog 68 [.s s, .i .i64 p] (.b (isB s p.toNat)) := by
  refine ⟨rfl, rfl, FnK.of (cf := mkCf Tryz.prog te [] 15 0 false (fun _ => false) (kp [(0, [0, 1]), (1, [4])]) [] []) (mkCf_ok te_ok (l := []) (trivial) mixed_ok) Tryz.func68 rfl rfl rfl (by simp [mkCf]) (by simp [mkCf]) (rs := [.tmp 4]) rfl 100000 ?_⟩
  simp only [↓XC, XV, XT, forall_const, implies_true, reduceIte, Nat.reduceAdd, Nat.reduceLT, Nat.reduceEqDiff, Nat.reduceBEq, Nat.reduceLeDiff, reduceCtorEq, Nat.reduceSub, Nat.reduceMul, Int.reduceToNat, Int.reduceLT, Int.reduceLE, TES]
  have h0 : byt s p.toNat = if p < s.length then ((s.getD p.toNat 0).toNat : Int) else -1 := by
    split
    · exact byt_lt (by omega)
    · exact byt_ge (by omega)
  refine Chk.mk (fun h => ⟨hp.2, by simpa using h⟩) fun _ => ?_
  simp only [isB, h0, SV.b.injEq]
  split
  · rename_i h
    have h1 : ¬ p ≥ s.length := by omega
    have h2 : ¬ ((s.getD p.toNat 0).toNat : Int) < 0 := by omega
    simp only [h1, h2, decide_false, Bool.false_or, Bool.or_false]; rfl
  · rename_i h
    have h1 : p ≥ s.length := by omega
    simp [h1]
noncomputable def pe_Break_s : PE := peR (fun (x : Bs × Int) => match x with | (s, p) => [.s s, .i .i64 p]) (fun (x : Bs × Int) => match x with | (s, p) => s.length ≤ 1048576 ∧ 0 ≤ p) (fun (x : Bs × Int) => match x with | (s, p) => .b (isB s p.toNat))
theorem pe_Break_s_eq {s : Bs} {p : Int} : pe_Break_s [.s s, .i .i64 p] = some (s.length ≤ 1048576 ∧ 0 ≤ p, .b (isB s p.toNat)) := peR_eq (by rintro ⟨a0, a1⟩ ⟨b0, b1⟩ h; simp_all []) (s, p)
theorem pe_Break_s_ok : PE1 Tryz.prog 68 pe_Break_s := peR_ok (by rintro ⟨s, p⟩ hp; exact Break_s s p hp)
theorem Gap_s (s : Bs) (p : Int) (hp : s.length ≤ 1048576 ∧ 0 ≤ p) : PF Tryz.prog 40 [.s s, .i .i64 p] (.b (gap s p.toNat)) := by
  refine ⟨rfl, rfl, FnK.of (cf := mkCf Tryz.prog te [(35, pe_White1_s), (68, pe_Break_s)] 13 0 false (fun _ => false) (kp [(0, [0, 1]), (1, [4])]) [] []) (mkCf_ok te_ok (l := [(35, pe_White1_s), (68, pe_Break_s)]) (⟨pe_White1_s_ok, pe_Break_s_ok, trivial⟩) mixed_ok) Tryz.func40 rfl rfl rfl (by simp [mkCf]) (by simp [mkCf]) (rs := [.tmp 4]) rfl 100000 ?_⟩
  simp only [↓XC, XV, XT, forall_const, implies_true, reduceIte, Nat.reduceAdd, Nat.reduceLT, Nat.reduceEqDiff, Nat.reduceBEq, Nat.reduceLeDiff, reduceCtorEq, Nat.reduceSub, Nat.reduceMul, Int.reduceToNat, Int.reduceLT, Int.reduceLE, TES, pe_White1_s_eq, pe_Break_s_eq]
  exact Chk.mk hp fun _ => Chk.mk (fun h => ⟨⟨h, h⟩, hp⟩) fun _ => rfl
noncomputable def pe_Gap_s : PE := peR (fun (x : Bs × Int) => match x with | (s, p) => [.s s, .i .i64 p]) (fun (x : Bs × Int) => match x with | (s, p) => s.length ≤ 1048576 ∧ 0 ≤ p) (fun (x : Bs × Int) => match x with | (s, p) => .b (gap s p.toNat))
theorem pe_Gap_s_eq {s : Bs} {p : Int} : pe_Gap_s [.s s, .i .i64 p] = some (s.length ≤ 1048576 ∧ 0 ≤ p, .b (gap s p.toNat)) := peR_eq (by rintro ⟨a0, a1⟩ ⟨b0, b1⟩ h; simp_all []) (s, p)
theorem pe_Gap_s_ok : PE1 Tryz.prog 40 pe_Gap_s := peR_ok (by rintro ⟨s, p⟩ hp; exact Gap_s s p hp)
theorem White_s (s : Bs) (p : Int) (hp : s.length ≤ 1048576) : PF Tryz.prog 33 [.s s, .i .i64 p] (.i .i64 (wh s (spot s p) : Nat)) := by
  refine ⟨rfl, rfl, FnK.of (cf := mkCf Tryz.prog te [(9, pe_spot_s), (35, pe_White1_s)] 14 0 false (fun _ => false) (kp [(0, [0, 1]), (1, [0, 1]), (2, [0, 1, 10]), (3, [0, 1]), (4, [4])]) [] []) (mkCf_ok te_ok (l := [(9, pe_spot_s), (35, pe_White1_s)]) (⟨pe_spot_s_ok, pe_White1_s_ok, trivial⟩) mixed_ok) Tryz.func33 rfl rfl rfl (by simp [mkCf]) (by simp [mkCf]) (rs := [.tmp 4]) rfl 100000 ?_⟩
  simp only [↓XC, XV, XT, forall_const, implies_true, reduceIte, Nat.reduceAdd, Nat.reduceLT, Nat.reduceEqDiff, Nat.reduceBEq, Nat.reduceLeDiff, reduceCtorEq, Nat.reduceSub, Nat.reduceMul, Int.reduceToNat, Int.reduceLT, Int.reduceLE, TES, pe_spot_s_eq, pe_White1_s_eq]
  refine VLoops.of (ι := {q : Nat // q ≤ s.length ∧ wh s q = wh s (spot s p)}) (fun x => ⟨[(0, .s s), (1, .i .i64 (x.1 : Nat))], []⟩) (fun x => s.length - x.1) ⟨spot s p, spot_le s p, rfl⟩ (Ent.refl _ _) ?_
  rintro ⟨q, hq, hw⟩
  simp only [↓XC, XV, XT, forall_const, implies_true, reduceIte, Nat.reduceAdd, Nat.reduceLT, Nat.reduceEqDiff, Nat.reduceBEq, Nat.reduceLeDiff, reduceCtorEq, Nat.reduceSub, Nat.reduceMul, Int.reduceToNat, Int.reduceLT, Int.reduceLE, TES, pe_White1_s_eq]
  refine Chk.mk ⟨hp, by omega⟩ fun _ => ⟨fun h => Chk.mk (by simp only [inR]; omega) fun _ => ?_, fun h => ?_⟩
  · have hl := isW_lt h
    exact ⟨⟨q + 1, by omega, by rw [← wh_t h]; exact hw⟩, by simp only; omega, (by first | exact Ent.refl _ _ | (simp only [Int.natCast_add, Int.natCast_one]; exact Ent.refl _ _))⟩
  · rw [← hw, wh_f h]
noncomputable def pe_White_s : PE := peR (fun (x : Bs × Int) => match x with | (s, p) => [.s s, .i .i64 p]) (fun (x : Bs × Int) => match x with | (s, p) => s.length ≤ 1048576) (fun (x : Bs × Int) => match x with | (s, p) => .i .i64 (wh s (spot s p) : Nat))
theorem pe_White_s_eq {s : Bs} {p : Int} : pe_White_s [.s s, .i .i64 p] = some (s.length ≤ 1048576, .i .i64 (wh s (spot s p) : Nat)) := peR_eq (by rintro ⟨a0, a1⟩ ⟨b0, b1⟩ h; simp_all []) (s, p)
theorem pe_White_s_ok : PE1 Tryz.prog 33 pe_White_s := peR_ok (by rintro ⟨s, p⟩ hp; exact White_s s p hp)
theorem EndAt_s (s : Bs) (p : Int) (hp : s.length ≤ 1048576) : PF Tryz.prog 36 [.s s, .i .i64 p] (.i .i64 (en s (spot s p) : Nat)) := by
  refine ⟨rfl, rfl, FnK.of (cf := mkCf Tryz.prog te [(9, pe_spot_s)] 21 0 false (fun _ => false) (kp [(0, [0, 1]), (1, [0, 1]), (2, [0, 1, 17]), (3, [0, 1]), (4, [4])]) [] []) (mkCf_ok te_ok (l := [(9, pe_spot_s)]) (⟨pe_spot_s_ok, trivial⟩) mixed_ok) Tryz.func36 rfl rfl rfl (by simp [mkCf]) (by simp [mkCf]) (rs := [.tmp 4]) rfl 100000 ?_⟩
  simp only [↓XC, XV, XT, forall_const, implies_true, reduceIte, Nat.reduceAdd, Nat.reduceLT, Nat.reduceEqDiff, Nat.reduceBEq, Nat.reduceLeDiff, reduceCtorEq, Nat.reduceSub, Nat.reduceMul, Int.reduceToNat, Int.reduceLT, Int.reduceLE, TES, pe_spot_s_eq]
  refine VLoops.of (ι := {q : Nat // q ≤ s.length ∧ en s q = en s (spot s p)}) (fun x => ⟨[(0, .s s), (1, .i .i64 (x.1 : Nat))], []⟩) (fun x => s.length - x.1) ⟨spot s p, spot_le s p, rfl⟩ (Ent.refl _ _) ?_
  rintro ⟨q, hq, hw⟩
  simp only [↓XC, XV, XT, forall_const, implies_true, reduceIte, Nat.reduceAdd, Nat.reduceLT, Nat.reduceEqDiff, Nat.reduceBEq, Nat.reduceLeDiff, reduceCtorEq, Nat.reduceSub, Nat.reduceMul, Int.reduceToNat, Int.reduceLT, Int.reduceLE, TES]
  have h0 : isB s q = (decide ((s.length : Int) ≤ q) || decide ((((s.getD q 0).toNat : Int)) = 10)) := by
    rcases Nat.lt_or_ge q s.length with h | h
    · have h2 : ¬ ((s.getD q 0).toNat : Int) < 0 := by omega
      have h3 : ¬ (s.length : Int) ≤ q := by omega
      simp only [isB, byt_lt h, h2, h3, decide_false, Bool.or_false, Bool.false_or]; rfl
    · have h3 : (s.length : Int) ≤ q := by omega
      simp [isB, byt_ge h, h3]
  refine Chk.mk (by omega) fun _ => ⟨fun h => Chk.mk (by simp only [inR]; omega) fun _ => ?_, fun h => ?_⟩
  · have hb : isB s q = false := by rw [h0]; simp at h ⊢; omega
    have hl := isB_not hb
    exact ⟨⟨q + 1, by omega, by rw [← en_t hb]; exact hw⟩, by simp only; omega, (by first | exact Ent.refl _ _ | (simp only [Int.natCast_add, Int.natCast_one]; exact Ent.refl _ _))⟩
  · have hb : isB s q = true := by rw [h0]; simp at h ⊢; omega
    rw [← hw, en_f hb]
noncomputable def pe_EndAt_s : PE := peR (fun (x : Bs × Int) => match x with | (s, p) => [.s s, .i .i64 p]) (fun (x : Bs × Int) => match x with | (s, p) => s.length ≤ 1048576) (fun (x : Bs × Int) => match x with | (s, p) => .i .i64 (en s (spot s p) : Nat))
theorem pe_EndAt_s_eq {s : Bs} {p : Int} : pe_EndAt_s [.s s, .i .i64 p] = some (s.length ≤ 1048576, .i .i64 (en s (spot s p) : Nat)) := peR_eq (by rintro ⟨a0, a1⟩ ⟨b0, b1⟩ h; simp_all []) (s, p)
theorem pe_EndAt_s_ok : PE1 Tryz.prog 36 pe_EndAt_s := peR_ok (by rintro ⟨s, p⟩ hp; exact EndAt_s s p hp)
end Go.T8
