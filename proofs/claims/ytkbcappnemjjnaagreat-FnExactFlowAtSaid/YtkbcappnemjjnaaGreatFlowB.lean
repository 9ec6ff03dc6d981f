/- Own text: part FlowB. -/
import Derived.Test.YtkbcappnemjjnaaGreatBaseE
import Derived.Test.YtkbcappnemjjnaaGreatTypes2
import Derived.Test.YtkbcappnemjjnaaGreatTextA
import Derived.Test.YtkbcappnemjjnaaGreatEventA
import Derived.Test.YtkbcappnemjjnaaGreatLineA
import Derived.Test.YtkbcappnemjjnaaGreatRuneA
import Derived.Test.YtkbcappnemjjnaaGreatFoldA
import Derived.Test.YtkbcappnemjjnaaGreatQuotA
import Derived.Test.YtkbcappnemjjnaaGreatQuotB
import Derived.Test.YtkbcappnemjjnaaGreatFlowA
import Derived.Test.YtkbcappnemjjnaaGreatBaseF
set_option linter.unusedVariables false
set_option linter.unusedSimpArgs false
namespace Go.T71
open Go.Proofs Go.Vg Go.RowKit Go.TT Go.Pl Go.T8 Go.T12 Go.T60 Go.T61 Go.T62 Go.T63 Go.T64 Go.T70
set_option linter.unusedVariables false
set_option linter.unusedSimpArgs false
set_option maxRecDepth 10000
set_option maxHeartbeats 4000000
theorem isWord (b : UInt8) : PF Tryz.prog 113 [.i .u8 (b.toNat : Nat)] (.b (isWd b)) := by
  refine ⟨rfl, rfl, FnK.of (cf := mkCf Tryz.prog te [] 29 0 false (fun _ => false) (kp [(0, [0]), (1, [2])]) [] []) (mkCf_ok te_ok (l := []) (trivial) mixed_ok) Tryz.func113 rfl rfl rfl (by simp [mkCf]) (by simp [mkCf]) (rs := [.tmp 2]) rfl 100000 ?_⟩
  simp only [↓XC, XV, XT, forall_const, implies_true, reduceIte, Nat.reduceAdd, Nat.reduceLT, Nat.reduceEqDiff, Nat.reduceBEq, Nat.reduceLeDiff, reduceCtorEq, Nat.reduceSub, Nat.reduceMul, Int.reduceToNat, Int.reduceLT, Int.reduceLE, TES]
  simp only [SV.b.injEq]
  unfold isWd
  rw [Bool.eq_iff_iff]
  simp only [Bool.or_eq_true, Bool.and_eq_true, decide_eq_true_eq]
  omega
noncomputable def pe_isWord : PE := peR (fun (b : UInt8) => [.i .u8 (b.toNat : Nat)]) (fun (b : UInt8) => True) (fun (b : UInt8) => .b (isWd b))
theorem pe_isWord_eq {b : UInt8} : pe_isWord [.i .u8 (b.toNat : Nat)] = some (True, .b (isWd b)) := peR_eq (by rintro a b h; simp_all [Int.ofNat_inj, UInt8.toNat_inj]) b
theorem pe_isWord_ok : PE1 Tryz.prog 113 pe_isWord := peR_ok (by rintro b hp; exact isWord b)
theorem nameOk (s : Bs) (hp : s.length ≤ 1048576) : PF Tryz.prog 102 [.s s] (.b (nmO s)) := by
  refine ⟨rfl, rfl, FnK.of (cf := mkCf Tryz.prog te [(113, pe_isWord)] 36 0 false (fun _ => false) (kp [(0, [0]), (1, [0, 23]), (2, [2]), (3, [0, 3]), (4, [0, 3, 28]), (5, [0, 3]), (6, [0, 3, 35]), (7, [2]), (8, [2])]) [] []) (mkCf_ok te_ok (l := [(113, pe_isWord)]) (⟨pe_isWord_ok, trivial⟩) mixed_ok) Tryz.func102 rfl rfl rfl (by simp [mkCf]) (by simp [mkCf]) (rs := [.tmp 2]) rfl 100000 ?_⟩
  simp only [↓XC, XV, XT, forall_const, implies_true, reduceIte, Nat.reduceAdd, Nat.reduceLT, Nat.reduceEqDiff, Nat.reduceBEq, Nat.reduceLeDiff, reduceCtorEq, Nat.reduceSub, Nat.reduceMul, Int.reduceToNat, Int.reduceLT, Int.reduceLE, TES, pe_isWord_eq]
  have hA : ∀ x : Nat, x = s.length - 1 → ((decide ((s.length : Int) > 60) || decide (s = []) || !decide (((s.getD 0 0).toNat : Int) = 33) || !decide (((s.getD x 0).toNat : Int) = 33)) = false ↔ (s.length ≤ 60 ∧ s ≠ [] ∧ s.getD 0 0 = 33 ∧ s.getD (s.length - 1) 0 = 33)) := by
    rintro x rfl
    have h3 := u8_eq (c := s.getD 0 0) (n := 33) (by decide)
    have h4 := u8_eq (c := s.getD (s.length - 1) 0) (n := 33) (by decide)
    simp only [Int.cast_ofNat_Int] at h3 h4
    simp only [h3, h4]
    simp only [Bool.or_eq_false_iff, decide_eq_false_iff_not, Bool.not_eq_false', decide_eq_true_eq, ne_eq]
    constructor
    · rintro ⟨⟨⟨a, b⟩, c⟩, d⟩; exact ⟨by omega, b, c, d⟩
    · rintro ⟨a, b, c, d⟩; exact ⟨⟨⟨by omega, b⟩, c⟩, d⟩
  have hl0 : s ≠ [] → 0 < s.length := fun h => List.length_pos_iff.2 h
  have e1 : ((s.length : Int) - 1).toNat = s.length - 1 := by omega
  rw [e1]
  refine Chk.mk (fun h => by simp at h; have := hl0 h.2; omega) fun _ => Chk.mk (fun h => by simp only [inR]; omega) fun _ => Chk.mk (fun h => by simp at h; have := hl0 h.1.2; omega) fun _ => ⟨fun h => ?_, fun h => ?_⟩
  · have : ¬ (s.length ≤ 60 ∧ s ≠ [] ∧ s.getD 0 0 = 33 ∧ s.getD (s.length - 1) 0 = 33) := by rw [← hA _ rfl, h]; simp
    rw [nmO, decide_eq_false this]; rfl
  have hc := (hA _ rfl).1 h
  have hnm : nmO s = (sub s 1 (s.length - 1)).all isWd := by rw [nmO, decide_eq_true hc]; rfl
  have hpos := hl0 hc.2.1
  refine VLoops.of (ι := {i : Nat // 1 ≤ i ∧ i ≤ s.length ∧ ∀ j, 1 ≤ j → j < i → isWd (s.getD j 0) = true}) (fun x => ⟨[(0, .s s), (3, .i .i64 (x.1 : Nat))], []⟩) (fun x => s.length - x.1) ⟨1, Nat.le_refl _, by omega, fun j h1 h2 => by omega⟩ (Ent.refl _ _) ?_
  rintro ⟨i, hi1, hi2, hj⟩
  simp only [↓XC, XV, XT, forall_const, implies_true, reduceIte, Nat.reduceAdd, Nat.reduceLT, Nat.reduceEqDiff, Nat.reduceBEq, Nat.reduceLeDiff, reduceCtorEq, Nat.reduceSub, Nat.reduceMul, Int.reduceToNat, Int.reduceLT, Int.reduceLE, TES, pe_isWord_eq]
  refine Chk.mk (by simp only [inR]; omega) fun _ => ⟨fun hl => Chk.mk (by omega) fun _ => ⟨fun hw => ?_, fun hw => Chk.mk (by simp only [inR]; omega) fun _ => ?_⟩, fun hl => ?_⟩
  · have : nmO s = false := by
      rw [hnm, Bool.eq_false_iff]
      intro h9
      have := (sub_all isWd (by omega)).1 h9 i hi1 (by omega)
      rw [this] at hw; cases hw
    rw [this]
  · refine ⟨⟨i + 1, by omega, by omega, fun j h1 h2 => ?_⟩, by simp only; omega, (by first | exact Ent.refl _ _ | (simp only [Int.natCast_add, Int.natCast_one]; exact Ent.refl _ _))⟩
    rcases Nat.lt_or_ge j i with h3 | h3
    · exact hj j h1 h3
    · obtain rfl : j = i := by omega
      simpa using hw
  · have : nmO s = true := by rw [hnm]; exact (sub_all isWd (by omega)).2 fun j h1 h2 => hj j h1 (by omega)
    rw [this]
noncomputable def pe_nameOk : PE := peR (fun (s : Bs) => [.s s]) (fun (s : Bs) => s.length ≤ 1048576) (fun (s : Bs) => .b (nmO s))
theorem pe_nameOk_eq {s : Bs} : pe_nameOk [.s s] = some (s.length ≤ 1048576, .b (nmO s)) := peR_eq (by rintro a b h; simp_all []) s
theorem pe_nameOk_ok : PE1 Tryz.prog 102 pe_nameOk := peR_ok (by rintro s hp; exact nameOk s hp)
theorem Word_s (s : Bs) (hp : s.length ≤ 1048576) : PF Tryz.prog 94 [.s s] (.b (s.all isWd)) := by
  refine ⟨rfl, rfl, FnK.of (cf := mkCf Tryz.prog te [] 40 0 false (fun _ => false) (kp [(0, [0]), (1, [0, 3]), (2, [0, 3, 8]), (3, [0, 3]), (4, [0, 3, 4]), (5, [0, 3, 39]), (6, [2]), (7, [2])]) [] []) (mkCf_ok te_ok (l := []) (trivial) mixed_ok) Tryz.func94 rfl rfl rfl (by simp [mkCf]) (by simp [mkCf]) (rs := [.tmp 2]) rfl 100000 ?_⟩
  simp only [↓XC, XV, XT, forall_const, implies_true, reduceIte, Nat.reduceAdd, Nat.reduceLT, Nat.reduceEqDiff, Nat.reduceBEq, Nat.reduceLeDiff, reduceCtorEq, Nat.reduceSub, Nat.reduceMul, Int.reduceToNat, Int.reduceLT, Int.reduceLE, TES]
  refine VLoops.of (ι := {i : Nat // i ≤ s.length ∧ ∀ j, j < i → isWd (s.getD j 0) = true}) (fun x => ⟨[(0, .s s), (3, .i .i64 (x.1 : Nat))], []⟩) (fun x => s.length - x.1) ⟨0, Nat.zero_le _, fun j h2 => by omega⟩ (Ent.refl _ _) ?_
  rintro ⟨i, hi2, hj⟩
  simp only [↓XC, XV, XT, forall_const, implies_true, reduceIte, Nat.reduceAdd, Nat.reduceLT, Nat.reduceEqDiff, Nat.reduceBEq, Nat.reduceLeDiff, reduceCtorEq, Nat.reduceSub, Nat.reduceMul, Int.reduceToNat, Int.reduceLT, Int.reduceLE, TES]
  have hAll : s.all isWd = (sub s 0 s.length).all isWd := by simp [sub]
  refine ⟨fun hl => Chk.mk (by omega) fun _ => ?_, fun hl => ?_⟩
  · have hX : ∀ b : UInt8, ((decide ((b.toNat : Int) < 97) || decide ((b.toNat : Int) > 122)) && (decide ((b.toNat : Int) < 65) || decide ((b.toNat : Int) > 90)) && (decide ((b.toNat : Int) < 48) || decide ((b.toNat : Int) > 57)) && !decide ((b.toNat : Int) = 45)) = !isWd b := by
      intro b
      unfold isWd
      rw [Bool.eq_iff_iff]
      simp only [Bool.or_eq_true, Bool.and_eq_true, decide_eq_true_eq, Bool.not_eq_true', decide_eq_false_iff_not, Bool.or_eq_false_iff, Bool.and_eq_false_iff]
      omega
    rw [hX]
    refine ⟨fun hw => ?_, fun hw => Chk.mk (by simp only [inR]; omega) fun _ => ?_⟩
    · have : s.all isWd = false := by
        rw [hAll, Bool.eq_false_iff]
        intro h9
        have := (sub_all isWd (Nat.le_refl _)).1 h9 i (by omega) (by omega)
        rw [this] at hw; cases hw
      rw [this]
    · refine ⟨⟨i + 1, by omega, fun j h2 => ?_⟩, by simp only; omega, (by first | exact Ent.refl _ _ | (simp only [Int.natCast_add, Int.natCast_one]; exact Ent.refl _ _))⟩
      rcases Nat.lt_or_ge j i with h3 | h3
      · exact hj j h3
      · obtain rfl : j = i := by omega
        simpa using hw
  · have : s.all isWd = true := by rw [hAll]; exact (sub_all isWd (Nat.le_refl _)).2 fun j h1 h2 => hj j (by omega)
    rw [this]
noncomputable def pe_Word_s : PE := peR (fun (s : Bs) => [.s s]) (fun (s : Bs) => s.length ≤ 1048576) (fun (s : Bs) => .b (s.all isWd))
theorem pe_Word_s_eq {s : Bs} : pe_Word_s [.s s] = some (s.length ≤ 1048576, .b (s.all isWd)) := peR_eq (by rintro a b h; simp_all []) s
theorem pe_Word_s_ok : PE1 Tryz.prog 94 pe_Word_s := peR_ok (by rintro s hp; exact Word_s s hp)
theorem NameO_s (s : Bs) (hp : s.length ≤ 1048576) : PF Tryz.prog 70 [.s s] (.b (nmO s)) := by
  refine ⟨rfl, rfl, FnK.of (cf := mkCf Tryz.prog te [(94, pe_Word_s)] 37 0 false (fun _ => false) (kp [(0, [0]), (1, [0, 9]), (2, [2]), (3, [0, 3]), (4, [2])]) [] []) (mkCf_ok te_ok (l := [(94, pe_Word_s)]) (⟨pe_Word_s_ok, trivial⟩) mixed_ok) Tryz.func70 rfl rfl rfl (by simp [mkCf]) (by simp [mkCf]) (rs := [.tmp 2]) rfl 100000 ?_⟩
  simp only [↓XC, XV, XT, forall_const, implies_true, reduceIte, Nat.reduceAdd, Nat.reduceLT, Nat.reduceEqDiff, Nat.reduceBEq, Nat.reduceLeDiff, reduceCtorEq, Nat.reduceSub, Nat.reduceMul, Int.reduceToNat, Int.reduceLT, Int.reduceLE, TES, pe_Word_s_eq]
  have h3 := u8_eq (c := s.getD 0 0) (n := 33) (by decide)
  have e1 : ((s.length : Int) - 1).toNat = s.length - 1 := by omega
  have h4 := u8_eq (c := s.getD (s.length - 1) 0) (n := 33) (by decide)
  simp only [Int.cast_ofNat_Int] at h3 h4
  simp only [e1, h3, h4]
  refine ⟨fun h => ?_, fun h => Chk.mk (fun h => by simp at h; omega) fun _ => Chk.mk (fun h => by simp only [inR]; omega) fun _ => Chk.mk (fun h => by simp at h; omega) fun _ => Chk.mk (fun h => by simp only [inR]; omega) fun _ => Chk.mk (fun h => by simp at h; omega) fun _ => Chk.mk (fun h => ⟨h, by simp only [List.length_drop, List.length_take]; omega⟩) fun _ => ?_⟩
  · simp only [Bool.or_eq_true, decide_eq_true_eq] at h
    rcases h with rfl | rfl <;> rfl
  · have hn : nmO s = (decide (s.length ≤ 60 ∧ s ≠ [] ∧ s.getD 0 0 = 33 ∧ s.getD (s.length - 1) 0 = 33) && (sub s 1 (s.length - 1)).all isWd) := rfl
    rw [hn]
    simp only [SV.b.injEq]
    change (_ && (sub s 1 (s.length - 1)).all isWd) = _
    congr 1
    rw [Bool.eq_iff_iff]
    simp only [Bool.and_eq_true, decide_eq_true_eq, gt_iff_lt, ne_eq]
    constructor
    · rintro ⟨⟨⟨a, b⟩, c⟩, d⟩
      exact ⟨by omega, fun e => by subst e; simp at a, c, d⟩
    · rintro ⟨a, b, c, d⟩
      refine ⟨⟨⟨?_, by omega⟩, c⟩, d⟩
      match s, h, b, c, d with
      | [x], h, _, c, _ => simp at c; subst c; simp at h
      | [x, y], h, _, c, d => simp at c d; subst c; subst d; simp at h
      | x :: y :: z :: r, _, _, _, _ => simp only [List.length_cons]; omega
noncomputable def pe_NameO_s : PE := peR (fun (s : Bs) => [.s s]) (fun (s : Bs) => s.length ≤ 1048576) (fun (s : Bs) => .b (nmO s))
theorem pe_NameO_s_eq {s : Bs} : pe_NameO_s [.s s] = some (s.length ≤ 1048576, .b (nmO s)) := peR_eq (by rintro a b h; simp_all []) s
theorem pe_NameO_s_ok : PE1 Tryz.prog 70 pe_NameO_s := peR_ok (by rintro s hp; exact NameO_s s hp)
theorem TagRead_i (raw : Bs) (l : List Hd) (hp : raw.length ≤ 1048576 ∧ l.length ≤ 1048576 ∧ (∀ h ∈ l, h.pre.length ≤ 1048576)) : PF Tryz.prog 84 [.s raw, .fs 2 (l.map hdc)] (.tup [.s (trA raw l).1, .b (trA raw l).2]) := by
  refine ⟨rfl, rfl, FnK.of (cf := mkCf Tryz.prog te [(78, pe_lixs), (102, pe_nameOk)] 87 0 false (fun _ => false) (kp [(0, [0, 1]), (1, [0, 1, 11]), (2, [4, 5]), (3, [0, 1, 19]), (4, [4, 5]), (5, [0, 1, 41]), (6, [4, 5]), (7, [0, 1, 6]), (8, [1, 7, 8]), (9, [1, 7, 8, 59]), (10, [4, 5]), (11, [7, 8, 60, 61, 62]), (12, [7, 8, 60, 61, 62, 63]), (13, [7, 8, 10, 60, 61, 62]), (14, [7, 8, 10, 60, 61, 62, 69]), (15, [8, 10, 72]), (16, [4, 5]), (17, [4, 5]), (18, [7, 8, 60, 61, 62]), (19, [8, 78]), (20, [8, 78, 79]), (21, [4, 5]), (22, [8, 83]), (23, [4, 5]), (24, [4, 5])]) [] [(8, [], [], .q1 0 (.q1 1 (.q1 2 (.q1 3 (.q1 4 (.q1 5 (.q1 6 (.q1 7 (.fin)))))))))]) (mkCf_ok te_ok (l := [(78, pe_lixs), (102, pe_nameOk)]) (⟨pe_lixs_ok, pe_nameOk_ok, trivial⟩) mixed_ok) Tryz.func84 rfl rfl rfl (by simp [mkCf]) (by simp [mkCf]) (rs := [.tmp 4, .tmp 5]) rfl 100000 ?_⟩
  simp only [↓XC, XV, XT, forall_const, implies_true, reduceIte, Nat.reduceAdd, Nat.reduceLT, Nat.reduceEqDiff, Nat.reduceBEq, Nat.reduceLeDiff, reduceCtorEq, Nat.reduceSub, Nat.reduceMul, Int.reduceToNat, Int.reduceLT, Int.reduceLE, TES, pe_lixs_eq, pe_nameOk_eq, XRH]
  have hlx := lix_bd raw 33
  have h0 := u8_eq (c := raw.getD 0 0) (n := 33) (by decide)
  have h1 := u8_eq (c := raw.getD 1 0) (n := 60) (by decide)
  have e1 : ((raw.length : Int) - 1).toNat = raw.length - 1 := by omega
  have h2 := u8_eq (c := raw.getD (raw.length - 1) 0) (n := 62) (by decide)
  simp only [Int.cast_ofNat_Int] at h0 h1 h2
  have h5 : ((raw.length : Int) > 3) = (3 < raw.length) := by apply propext; omega
  simp only [h0, h1, h2, e1, h5]
  refine Chk.mk (fun h => Int.ofNat_lt.2 (List.length_pos_iff.2 (by simpa using h))) fun _ => ⟨fun h => ?_, fun h => Chk.mk (fun h => by omega) fun _ => Chk.mk (fun h => by simp only [inR]; omega) fun _ => Chk.mk (fun h => by simp at h; omega) fun _ => ⟨fun hb => Chk.mk (by simp only [inR]; omega) fun _ => Chk.mk (by simp at hb; omega) fun _ => ?_, fun hb => ⟨fun hc => ?_, fun hc => Chk.mk hp.1 fun _ => Chk.mk (by simp only [inR]; omega) fun _ => ⟨by decide +kernel, Chk.mk (by omega) fun _ => Chk.mk (by omega) fun _ => Chk.mk (fun h => ⟨h, by simp only [List.length_take]; omega⟩) fun _ => ⟨fun hd => ?_, fun hd => ?_⟩⟩⟩⟩⟩
  · rw [trA_a (by simpa using h)]
  · rw [trA_b (by simpa using h) (by simpa [and_assoc] using hb)]; rfl
  · subst hc; rw [trA_c]
  · rw [trA_d (by simpa using h) (by simpa [and_assoc] using hb) hc, if_pos (by simpa using hd)]
  have hD := trA_d (l := l) (by simpa using h) (by simpa [and_assoc] using hb) hc
  rw [if_neg (by simpa using hd)] at hD
  generalize List.take (lix raw 33 + 1).toNat raw = nm at *
  have hrl : (List.drop (lix raw 33 + 1).toNat raw).length ≤ 1048576 := by simp only [List.length_drop]; omega
  generalize List.drop (lix raw 33 + 1).toNat raw = rs at *
  refine VLoops.of (ι := {i : Nat // i ≤ l.length ∧ hdF nm rs (l.drop i) = hdF nm rs l}) (fun x => ⟨[(7, .s nm), (8, .s rs), (60, .fs 2 (l.map hdc)), (61, .i .i64 (l.length : Nat)), (62, .i .i64 (x.1 : Nat))], []⟩) (fun x => l.length - x.1) ⟨0, Nat.zero_le _, rfl⟩ (Ent.refl _ _) ?_
  rintro ⟨i, hi, hd2⟩
  simp only [↓XC, XV, XT, forall_const, implies_true, reduceIte, Nat.reduceAdd, Nat.reduceLT, Nat.reduceEqDiff, Nat.reduceBEq, Nat.reduceLeDiff, reduceCtorEq, Nat.reduceSub, Nat.reduceMul, Int.reduceToNat, Int.reduceLT, Int.reduceLE, TES, XRH]
  refine ⟨fun hl => Chk.mk (by omega) fun _ => ?_, fun hl => ?_⟩
  · have hs := hdF_drop (name := nm) (rest := rs) (l := l) (i := i) (by omega)
    have hpl := hp.2.2 (l.getD i hdz) (getD_mem (by omega))
    refine ⟨fun hn => ⟨fun he => ?_, fun he => Chk.mk (by omega) fun _ => ?_⟩, fun hn => Chk.mk (by simp only [inR]; omega) fun _ => ⟨⟨i + 1, by omega, ?_⟩, by simp only; omega, (by (try simp only [Int.natCast_add, Int.natCast_one]); exact Ent.nil (by simp [entEnv, Vg.look, SV.mapH]))⟩⟩
    · rw [hD, ← hd2, hs, if_pos hn, if_pos he]
    · rw [hD, ← hd2, hs, if_pos hn, if_neg he]
    · rw [← hd2, hs, if_neg hn]
  · rw [hD, ← hd2, List.drop_of_length_le (by omega)]
    refine ⟨fun h3 => Chk.mk (by omega) fun _ => ?_, fun h3 => ⟨fun h4 => Chk.mk (by omega) fun _ => ?_, fun h4 => ?_⟩⟩
    · unfold hdF; rw [if_pos h3]; rfl
    · unfold hdF; rw [if_neg h3, if_pos h4]; rfl
    · unfold hdF; rw [if_neg h3, if_neg h4]
noncomputable def pe_TagRead_i : PE := peR (fun (x : Bs × List Hd) => match x with | (raw, l) => [.s raw, .fs 2 (l.map hdc)]) (fun (x : Bs × List Hd) => match x with | (raw, l) => raw.length ≤ 1048576 ∧ l.length ≤ 1048576 ∧ (∀ h ∈ l, h.pre.length ≤ 1048576)) (fun (x : Bs × List Hd) => match x with | (raw, l) => .tup [.s (trA raw l).1, .b (trA raw l).2])
theorem pe_TagRead_i_eq {raw : Bs} {l : List Hd} : pe_TagRead_i [.s raw, .fs 2 (l.map hdc)] = some (raw.length ≤ 1048576 ∧ l.length ≤ 1048576 ∧ (∀ h ∈ l, h.pre.length ≤ 1048576), .tup [.s (trA raw l).1, .b (trA raw l).2]) := peR_eq (by rintro ⟨a0, a1⟩ ⟨b0, b1⟩ h; simp_all [hdc_inj]) (raw, l)
theorem pe_TagRead_i_ok : PE1 Tryz.prog 84 pe_TagRead_i := peR_ok (by rintro ⟨raw, l⟩ hp; exact TagRead_i raw l hp)
theorem Prefix_s (raw : Bs) (l : List Hd) (hp : l.length ≤ 1048576) : PF Tryz.prog 69 [.s raw, .fs 2 (l.map hdc)] (.s (hdP raw l)) := by
  refine ⟨rfl, rfl, FnK.of (cf := mkCf Tryz.prog te [] 25 0 false (fun _ => false) (kp [(0, [0, 1]), (1, [0, 7, 8, 9]), (2, [0, 7, 8, 9, 10]), (3, [0, 6, 7, 8, 9]), (4, [0, 6, 7, 8, 9, 16]), (5, [4]), (6, [0, 7, 8, 9]), (7, [20]), (8, [20, 21]), (9, [4]), (10, [23]), (11, [4]), (12, [4])]) [] []) (mkCf_ok te_ok (l := []) (trivial) mixed_ok) Tryz.func69 rfl rfl rfl (by simp [mkCf]) (by simp [mkCf]) (rs := [.tmp 4]) rfl 100000 ?_⟩
  simp only [↓XC, XV, XT, forall_const, implies_true, reduceIte, Nat.reduceAdd, Nat.reduceLT, Nat.reduceEqDiff, Nat.reduceBEq, Nat.reduceLeDiff, reduceCtorEq, Nat.reduceSub, Nat.reduceMul, Int.reduceToNat, Int.reduceLT, Int.reduceLE, TES, XRH]
  refine VLoops.of (ι := {i : Nat // i ≤ l.length ∧ hdP raw (l.drop i) = hdP raw l}) (fun x => ⟨[(0, .s raw), (7, .fs 2 (l.map hdc)), (8, .i .i64 (l.length : Nat)), (9, .i .i64 (x.1 : Nat))], []⟩) (fun x => l.length - x.1) ⟨0, Nat.zero_le _, rfl⟩ (Ent.refl _ _) ?_
  rintro ⟨i, hi, hd⟩
  simp only [↓XC, XV, XT, forall_const, implies_true, reduceIte, Nat.reduceAdd, Nat.reduceLT, Nat.reduceEqDiff, Nat.reduceBEq, Nat.reduceLeDiff, reduceCtorEq, Nat.reduceSub, Nat.reduceMul, Int.reduceToNat, Int.reduceLT, Int.reduceLE, TES, XRH]
  refine ⟨fun hl => Chk.mk (by omega) fun _ => ?_, fun hl => ?_⟩
  · have hs := hdP_drop (name := raw) (l := l) (i := i) (by omega)
    refine ⟨fun hn => ?_, fun hn => Chk.mk (by simp only [inR]; omega) fun _ => ⟨⟨i + 1, by omega, ?_⟩, by simp only; omega, (by (try simp only [Int.natCast_add, Int.natCast_one]); exact Ent.nil (by simp [entEnv, Vg.look, SV.mapH]))⟩⟩
    · rw [← hd, hs, if_pos hn]
    · rw [← hd, hs, if_neg hn]
  · rw [← hd, List.drop_of_length_le (by omega)]
    refine ⟨fun h3 => ?_, fun h3 => ⟨fun h4 => ?_, fun h4 => ?_⟩⟩
    · unfold hdP; rw [if_pos h3]
    · unfold hdP; rw [if_neg h3, if_pos h4]
    · unfold hdP; rw [if_neg h3, if_neg h4]
noncomputable def pe_Prefix_s : PE := peR (fun (x : Bs × List Hd) => match x with | (raw, l) => [.s raw, .fs 2 (l.map hdc)]) (fun (x : Bs × List Hd) => match x with | (raw, l) => l.length ≤ 1048576) (fun (x : Bs × List Hd) => match x with | (raw, l) => .s (hdP raw l))
theorem pe_Prefix_s_eq {raw : Bs} {l : List Hd} : pe_Prefix_s [.s raw, .fs 2 (l.map hdc)] = some (l.length ≤ 1048576, .s (hdP raw l)) := peR_eq (by rintro ⟨a0, a1⟩ ⟨b0, b1⟩ h; simp_all [hdc_inj]) (raw, l)
theorem pe_Prefix_s_ok : PE1 Tryz.prog 69 pe_Prefix_s := peR_ok (by rintro ⟨raw, l⟩ hp; exact Prefix_s raw l hp)
theorem TagRead_s (raw : Bs) (l : List Hd) (hp : raw.length ≤ 1048576 ∧ l.length ≤ 1048576 ∧ (∀ h ∈ l, h.pre.length ≤ 1048576)) : PF Tryz.prog 42 [.s raw, .fs 2 (l.map hdc)] (.tup [.s (trA raw l).1, .b (trA raw l).2]) := by
  refine ⟨rfl, rfl, FnK.of (cf := mkCf Tryz.prog te [(69, pe_Prefix_s), (70, pe_NameO_s)] 70 0 false (fun _ => false) (kp [(0, [0, 1]), (1, [0, 1, 6]), (2, [0, 1, 6, 17]), (3, [4, 5]), (4, [0, 1, 6, 19]), (5, [4, 5]), (6, [0, 1, 6, 33]), (7, [4, 5]), (8, [0, 1, 6, 7]), (9, [0, 1, 6, 7, 43]), (10, [0, 1, 6, 7]), (11, [0, 6, 7, 8]), (12, [0, 7, 8, 64]), (13, [4, 5]), (14, [4, 5])]) [] []) (mkCf_ok te_ok (l := [(69, pe_Prefix_s), (70, pe_NameO_s)]) (⟨pe_Prefix_s_ok, pe_NameO_s_ok, trivial⟩) mixed_ok) Tryz.func42 rfl rfl rfl (by simp [mkCf]) (by simp [mkCf]) (rs := [.tmp 4, .tmp 5]) rfl 100000 ?_⟩
  simp only [↓XC, XV, XT, forall_const, implies_true, reduceIte, Nat.reduceAdd, Nat.reduceLT, Nat.reduceEqDiff, Nat.reduceBEq, Nat.reduceLeDiff, reduceCtorEq, Nat.reduceSub, Nat.reduceMul, Int.reduceToNat, Int.reduceLT, Int.reduceLE, TES, pe_Prefix_s_eq, pe_NameO_s_eq, XRH]
  have hlx := lix_bd raw 33
  have h0 := u8_eq (c := raw.getD 0 0) (n := 33) (by decide)
  have h1 := u8_eq (c := raw.getD 1 0) (n := 60) (by decide)
  have e1 : ((raw.length : Int) - 1).toNat = raw.length - 1 := by omega
  have h2 := u8_eq (c := raw.getD (raw.length - 1) 0) (n := 62) (by decide)
  simp only [Int.cast_ofNat_Int] at h0 h1 h2
  have h5 : ((raw.length : Int) > 3) = (3 < raw.length) := by apply propext; omega
  simp only [h0, h1, h2, e1, h5]
  have hl0 : (raw.length : Int) = 0 ↔ raw = [] := by rw [← List.length_eq_zero_iff]; omega
  simp only [hl0]
  refine Chk.mk (fun h => Int.ofNat_lt.2 (List.length_pos_iff.2 (by simpa using h))) fun _ => ⟨fun h => ?_, fun h => ⟨fun hc => ?_, fun hc => Chk.mk (fun h => by omega) fun _ => Chk.mk (fun h => by simp only [inR]; omega) fun _ => Chk.mk (fun h => by simp at h; omega) fun _ => ⟨fun hb => Chk.mk (by simp only [inR]; omega) fun _ => Chk.mk (by simp at hb; omega) fun _ => ?_, fun hb => ?_⟩⟩⟩
  · rw [trA_a (by simpa using h)]
  · subst hc; rw [trA_c]
  · rw [trA_b (by simpa using h) (by simpa [and_assoc] using hb)]; rfl
  have hD := trA_d (l := l) (by simpa using h) (by simpa [and_assoc] using hb) hc
  have hne : raw ≠ [] ∧ raw.getD 0 0 = 33 := by simpa using h
  have hpos := List.length_pos_iff.2 hne.1
  have h00 : ((raw.getD 0 0).toNat : Int) = 33 := by rw [hne.2]; rfl
  refine VLoops.of (ι := {k : Nat // 1 ≤ k ∧ k ≤ raw.length ∧ lixU raw 33 k = lix raw 33}) (fun x => ⟨[(0, .s raw), (1, .fs 2 (l.map hdc)), (6, .i .i64 (raw.length : Nat)), (7, .i .i64 (x.1 : Nat))], []⟩) (fun x => x.1) ⟨raw.length, hpos, Nat.le_refl _, rfl⟩ (Ent.refl _ _) ?_
  rintro ⟨k, hk1, hk2, hk⟩
  simp only [↓XC, XV, XT, forall_const, implies_true, reduceIte, Nat.reduceAdd, Nat.reduceLT, Nat.reduceEqDiff, Nat.reduceBEq, Nat.reduceLeDiff, reduceCtorEq, Nat.reduceSub, Nat.reduceMul, Int.reduceToNat, Int.reduceLT, Int.reduceLE, TES, pe_Prefix_s_eq, pe_NameO_s_eq, XRH]
  obtain ⟨j, rfl⟩ : ∃ j, k = j + 1 := ⟨k - 1, by omega⟩
  have e3 : (((j + 1 : Nat) : Int) - 1).toNat = j := by omega
  have e4 : ((j + 1 : Nat) : Int) - 1 = (j : Nat) := by omega
  rw [e3, e4]
  refine Chk.mk (by simp only [inR]; omega) fun _ => Chk.mk (by omega) fun _ => ⟨fun hn => Chk.mk (by simp only [inR]; omega) fun _ => ⟨⟨j, ?_, by omega, by rw [← lixU_miss (by simpa using hn)]; exact hk⟩, by simp only; omega, Ent.refl _ _⟩, fun hn => ?_⟩
  · rcases Nat.eq_zero_or_pos j with h9 | h9
    · subst h9; exact absurd h00 (by simpa using hn)
    · exact h9
  · rw [lixU_hit (by simpa using hn)] at hk
    have ek : (lix raw 33 + 1).toNat = j + 1 := by omega
    have hlp := hdP_len (name := raw.take (j + 1)) (l := l) (N := 1048576) (by decide) hp.2.2
    rw [ek, hdF_P] at hD
    have hde : List.drop (j + 1) raw = [] ↔ ((j + 1 : Nat) : Int) = raw.length := by rw [← List.length_eq_zero_iff, List.length_drop]; omega
    have hdl : (List.drop (j + 1) raw).length ≤ 1048576 := by simp only [List.length_drop]; omega
    have htl : (List.take (j + 1) raw).length ≤ 1048576 := by simp only [List.length_take]; omega
    refine Chk.mk (by omega) fun _ => Chk.mk hp.2.1 fun _ => Chk.mk (fun _ => by omega) fun _ => Chk.mk (fun h => ⟨h, htl⟩) fun _ => ⟨fun hx => ?_, fun hx => Chk.mk (by omega) fun _ => Chk.mk (by omega) fun _ => ?_⟩
    · rw [hD]
      simp only [Bool.or_eq_true, decide_eq_true_eq, Bool.not_eq_true'] at hx
      rw [← hde] at hx
      by_cases h9 : List.drop (j + 1) raw = [] ∨ nmO (raw.take (j + 1)) = false
      · rw [if_pos h9]
      · rw [if_neg h9, if_pos (by rcases hx with hx | hx; exact absurd hx h9; exact hx)]
    · simp only [Bool.or_eq_false_iff, decide_eq_false_iff_not, Bool.not_eq_false'] at hx
      rw [hD, if_neg (by rintro (h9 | h9); exact hx.1.1 (hde.1 h9); rw [hx.1.2] at h9; cases h9), if_neg hx.2]
noncomputable def pe_TagRead_s : PE := peR (fun (x : Bs × List Hd) => match x with | (raw, l) => [.s raw, .fs 2 (l.map hdc)]) (fun (x : Bs × List Hd) => match x with | (raw, l) => raw.length ≤ 1048576 ∧ l.length ≤ 1048576 ∧ (∀ h ∈ l, h.pre.length ≤ 1048576)) (fun (x : Bs × List Hd) => match x with | (raw, l) => .tup [.s (trA raw l).1, .b (trA raw l).2])
theorem pe_TagRead_s_eq {raw : Bs} {l : List Hd} : pe_TagRead_s [.s raw, .fs 2 (l.map hdc)] = some (raw.length ≤ 1048576 ∧ l.length ≤ 1048576 ∧ (∀ h ∈ l, h.pre.length ≤ 1048576), .tup [.s (trA raw l).1, .b (trA raw l).2]) := peR_eq (by rintro ⟨a0, a1⟩ ⟨b0, b1⟩ h; simp_all [hdc_inj]) (raw, l)
theorem pe_TagRead_s_ok : PE1 Tryz.prog 42 pe_TagRead_s := peR_ok (by rintro ⟨raw, l⟩ hp; exact TagRead_s raw l hp)
end Go.T71
