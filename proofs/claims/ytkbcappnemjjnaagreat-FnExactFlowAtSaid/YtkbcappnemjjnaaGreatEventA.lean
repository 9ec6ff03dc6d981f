/- Own text: part EventA. -/
import Derived.Test.YtkbcappnemjjnaaGreatBaseE
import Derived.Test.YtkbcappnemjjnaaGreatTypes2
import Derived.Test.YtkbcappnemjjnaaGreatTextA
section
set_option linter.unusedVariables false
set_option linter.unusedSimpArgs false
namespace Go.T12
open Go.Proofs Go.Vg Go.RowKit Go.TT Go.Pl Go.T8
set_option linter.unusedVariables false
set_option linter.unusedSimpArgs false
set_option maxRecDepth 10000
set_option maxHeartbeats 4000000
theorem isFlow (b : Int) : PF Tryz.prog 83 [.i .i64 b] (.b (flw b)) := by
  refine ⟨rfl, rfl, FnK.of (cf := mkCf Tryz.prog te [] 21 0 false (fun _ => false) (kp [(0, [0]), (1, [2])]) [] []) (mkCf_ok te_ok (l := []) (trivial) mixed_ok) Tryz.func83 rfl rfl rfl (by simp [mkCf]) (by simp [mkCf]) (rs := [.tmp 2]) rfl 100000 ?_⟩
  simp only [↓XC, XV, XT, forall_const, implies_true, reduceIte, Nat.reduceAdd, Nat.reduceLT, Nat.reduceEqDiff, Nat.reduceBEq, Nat.reduceLeDiff, reduceCtorEq, Nat.reduceSub, Nat.reduceMul, Int.reduceToNat, Int.reduceLT, Int.reduceLE, TES]
  rfl
noncomputable def pe_isFlow : PE := peR (fun (b : Int) => [.i .i64 b]) (fun (b : Int) => True) (fun (b : Int) => .b (flw b))
theorem pe_isFlow_eq {b : Int} : pe_isFlow [.i .i64 b] = some (True, .b (flw b)) := peR_eq (by rintro a b h; simp_all []) b
theorem pe_isFlow_ok : PE1 Tryz.prog 83 pe_isFlow := peR_ok (by rintro b hp; exact isFlow b)
theorem Flow_s (b : Int) : PF Tryz.prog 41 [.i .u8 b] (.b (flw b)) := by
  refine ⟨rfl, rfl, FnK.of (cf := mkCf Tryz.prog te [] 21 0 false (fun _ => false) (kp [(0, [0]), (1, [2])]) [] []) (mkCf_ok te_ok (l := []) (trivial) mixed_ok) Tryz.func41 rfl rfl rfl (by simp [mkCf]) (by simp [mkCf]) (rs := [.tmp 2]) rfl 100000 ?_⟩
  simp only [↓XC, XV, XT, forall_const, implies_true, reduceIte, Nat.reduceAdd, Nat.reduceLT, Nat.reduceEqDiff, Nat.reduceBEq, Nat.reduceLeDiff, reduceCtorEq, Nat.reduceSub, Nat.reduceMul, Int.reduceToNat, Int.reduceLT, Int.reduceLE, TES]
  rfl
noncomputable def pe_Flow_s : PE := peR (fun (b : Int) => [.i .u8 b]) (fun (b : Int) => True) (fun (b : Int) => .b (flw b))
theorem pe_Flow_s_eq {b : Int} : pe_Flow_s [.i .u8 b] = some (True, .b (flw b)) := peR_eq (by rintro a b h; simp_all []) b
theorem pe_Flow_s_ok : PE1 Tryz.prog 41 pe_Flow_s := peR_ok (by rintro b hp; exact Flow_s b)
theorem eqEvent (k st : Int) (fl : Bool) (x a g : Bs) (p c : Int) (k' st' : Int) (fl' : Bool) (x' a' g' : Bs) (p' c' : Int) : PF Tryz.prog 17 [.agg [.i .i64 k, .i .i64 st, .b fl, .s x, .s a, .s g, .i .i64 p, .i .i64 c], .agg [.i .i64 k', .i .i64 st', .b fl', .s x', .s a', .s g', .i .i64 p', .i .i64 c']] (.b (decide (⟨k, st, fl, x, a, g, p, c⟩ = (⟨k', st', fl', x', a', g', p', c'⟩ : Ev)))) := by
  refine ⟨rfl, rfl, FnK.of (cf := mkCf Tryz.prog te [] 45 0 false (fun _ => false) (kp [(0, [2, 3]), (1, [2, 3, 9]), (2, [4]), (3, [2, 3, 14]), (4, [4]), (5, [2, 3, 19]), (6, [4]), (7, [2, 3, 24]), (8, [4]), (9, [2, 3, 29]), (10, [4]), (11, [2, 3, 34]), (12, [4]), (13, [2, 3, 39]), (14, [4]), (15, [44]), (16, [4]), (17, [4])]) [] []) (mkCf_ok te_ok (l := []) (trivial) mixed_ok) Tryz.func17 rfl rfl rfl (by simp [mkCf]) (by simp [mkCf]) (rs := [.tmp 4]) rfl 100000 ?_⟩
  simp only [↓XC, XV, XT, forall_const, implies_true, reduceIte, Nat.reduceAdd, Nat.reduceLT, Nat.reduceEqDiff, Nat.reduceBEq, Nat.reduceLeDiff, reduceCtorEq, Nat.reduceSub, Nat.reduceMul, Int.reduceToNat, Int.reduceLT, Int.reduceLE, TES]
  repeat' (first | with_reducible refine Chk.mk ?_ fun _ => ?_ | with_reducible refine And.intro ?_ ?_ | intro _)
  all_goals simp_all
noncomputable def pe_eqEvent : PE := peR (fun (x : Int × Int × Bool × Bs × Bs × Bs × Int × Int × Int × Int × Bool × Bs × Bs × Bs × Int × Int) => match x with | (k, st, fl, x, a, g, p, c, k', st', fl', x', a', g', p', c') => [.agg [.i .i64 k, .i .i64 st, .b fl, .s x, .s a, .s g, .i .i64 p, .i .i64 c], .agg [.i .i64 k', .i .i64 st', .b fl', .s x', .s a', .s g', .i .i64 p', .i .i64 c']]) (fun (x : Int × Int × Bool × Bs × Bs × Bs × Int × Int × Int × Int × Bool × Bs × Bs × Bs × Int × Int) => match x with | (k, st, fl, x, a, g, p, c, k', st', fl', x', a', g', p', c') => True) (fun (x : Int × Int × Bool × Bs × Bs × Bs × Int × Int × Int × Int × Bool × Bs × Bs × Bs × Int × Int) => match x with | (k, st, fl, x, a, g, p, c, k', st', fl', x', a', g', p', c') => .b (decide (⟨k, st, fl, x, a, g, p, c⟩ = (⟨k', st', fl', x', a', g', p', c'⟩ : Ev))))
theorem pe_eqEvent_eq {k st : Int} {fl : Bool} {x a g : Bs} {p c : Int} {k' st' : Int} {fl' : Bool} {x' a' g' : Bs} {p' c' : Int} : pe_eqEvent [.agg [.i .i64 k, .i .i64 st, .b fl, .s x, .s a, .s g, .i .i64 p, .i .i64 c], .agg [.i .i64 k', .i .i64 st', .b fl', .s x', .s a', .s g', .i .i64 p', .i .i64 c']] = some (True, .b (decide (⟨k, st, fl, x, a, g, p, c⟩ = (⟨k', st', fl', x', a', g', p', c'⟩ : Ev)))) := peR_eq (by rintro ⟨a0, a1, a2, a3, a4, a5, a6, a7, a8, a9, a10, a11, a12, a13, a14, a15⟩ ⟨b0, b1, b2, b3, b4, b5, b6, b7, b8, b9, b10, b11, b12, b13, b14, b15⟩ h; simp_all []) (k, st, fl, x, a, g, p, c, k', st', fl', x', a', g', p', c')
theorem pe_eqEvent_ok : PE1 Tryz.prog 17 pe_eqEvent := peR_ok (by rintro ⟨k, st, fl, x, a, g, p, c, k', st', fl', x', a', g', p', c'⟩ hp; exact eqEvent k st fl x a g p c k' st' fl' x' a' g' p' c')
end Go.T12
end
section
set_option linter.unusedVariables false
set_option linter.unusedSimpArgs false
namespace Go.T13
open Go.Proofs Go.Vg Go.RowKit Go.TT Go.Pl Go.T8 Go.T12
set_option linter.unusedVariables false
set_option linter.unusedSimpArgs false
set_option maxRecDepth 10000
set_option maxHeartbeats 4000000
theorem eqEventS (a b : List Ev) (hp : a.length ≤ 16777216) : PF Tryz.prog 6 [.fs 8 (a.map evc), .fs 8 (b.map evc)] (.b (decide (a = b))) := by
  refine ⟨rfl, rfl, FnK.of (cf := mkCf Tryz.prog te [(17, pe_eqEvent)] 27 0 false (fun _ => false) (kp [(0, [0, 1]), (1, [0, 1, 10]), (2, [4]), (3, [0, 1, 5]), (4, [0, 1, 5, 14]), (5, [0, 1, 5]), (6, [0, 1, 5, 26]), (7, [4]), (8, [4])]) [] [(6, [], [], .q1 0 (.q1 1 (.q1 2 (.q1 4 (.q1 5 (.q1 6 (.q0 3 [3] (.q0 7 [7] (.alt 8 (.q1 9 (.fin)) (.fin))))))))))]) (mkCf_ok te_ok (l := [(17, pe_eqEvent)]) (⟨pe_eqEvent_ok, trivial⟩) mixed_ok) Tryz.func6 rfl rfl rfl (by simp [mkCf]) (by simp [mkCf]) (rs := [.tmp 4]) rfl 100000 ?_⟩
  simp only [↓XC, XV, XT, forall_const, implies_true, reduceIte, Nat.reduceAdd, Nat.reduceLT, Nat.reduceEqDiff, Nat.reduceBEq, Nat.reduceLeDiff, reduceCtorEq, Nat.reduceSub, Nat.reduceMul, Int.reduceToNat, Int.reduceLT, Int.reduceLE, TES, pe_eqEvent_eq, XRE]
  refine ⟨fun h => ?_, fun h => ?_⟩
  · have : a ≠ b := by intro e; subst e; simp at h
    simp [this]
  have hlen : a.length = b.length := by simp at h; omega
  refine VLoops.of (ι := {i : Nat // i ≤ a.length ∧ ∀ j, j < i → a.getD j evz = b.getD j evz}) (fun x => ⟨[(0, .fs 8 (a.map evc)), (1, .fs 8 (b.map evc)), (5, .i .i64 (x.1 : Nat))], []⟩) (fun x => a.length - x.1) ⟨0, Nat.zero_le _, fun j hj => absurd hj (Nat.not_lt_zero _)⟩ (Ent.refl _ _) ?_
  rintro ⟨i, hi, hj⟩
  simp only [↓XC, XV, XT, forall_const, implies_true, reduceIte, Nat.reduceAdd, Nat.reduceLT, Nat.reduceEqDiff, Nat.reduceBEq, Nat.reduceLeDiff, reduceCtorEq, Nat.reduceSub, Nat.reduceMul, Int.reduceToNat, Int.reduceLT, Int.reduceLE, TES, pe_eqEvent_eq, XRE]
  refine ⟨fun h => ⟨by decide +kernel, Chk.mk (by omega) fun _ => Chk.mk (by omega) fun _ => ⟨fun hne => ?_, fun hne => Chk.mk (by simp only [inR]; omega) fun _ => ⟨⟨i + 1, by omega, ?_⟩, by simp only; omega, (by first | exact Ent.refl _ _ | (simp only [Int.natCast_add, Int.natCast_one]; exact Ent.refl _ _))⟩⟩⟩, fun h => ?_⟩
  · have : a ≠ b := by intro e; subst e; simp at hne
    simp [this]
  · intro j hjj
    rcases Nat.lt_or_ge j i with h1 | h1
    · exact hj j h1
    · have : j = i := by omega
      subst this
      simpa using hne
  · have : a = b := eq_of_getD evz hlen fun j h1 => hj j (by omega)
    simp [this]
noncomputable def pe_eqEventS : PE := peR (fun (x : List Ev × List Ev) => match x with | (a, b) => [.fs 8 (a.map evc), .fs 8 (b.map evc)]) (fun (x : List Ev × List Ev) => match x with | (a, b) => a.length ≤ 16777216) (fun (x : List Ev × List Ev) => match x with | (a, b) => .b (decide (a = b)))
theorem pe_eqEventS_eq {a b : List Ev} : pe_eqEventS [.fs 8 (a.map evc), .fs 8 (b.map evc)] = some (a.length ≤ 16777216, .b (decide (a = b))) := peR_eq (by rintro ⟨a0, a1⟩ ⟨b0, b1⟩ h; simp_all [evc_inj]) (a, b)
theorem pe_eqEventS_ok : PE1 Tryz.prog 6 pe_eqEventS := peR_ok (by rintro ⟨a, b⟩ hp; exact eqEventS a b hp)
end Go.T13
end
section
set_option linter.unusedVariables false
set_option linter.unusedSimpArgs false
namespace Go.T44
open Go.Proofs Go.Vg Go.RowKit Go.TT Go.Pl Go.T8 Go.T12 Go.T13
set_option linter.unusedVariables false
set_option linter.unusedSimpArgs false
set_option maxRecDepth 10000
set_option maxHeartbeats 4000000
theorem markText (k : Int) (hp : k ≤ 1073741824) : PF Tryz.prog 18 [.i .i64 k] (.s (mtx k)) := by
  refine ⟨rfl, rfl, FnK.of (cf := mkCf Tryz.prog te [] 20 0 false (fun _ => false) (kp [(0, [0]), (1, [0, 5]), (2, [2]), (3, [0, 3]), (4, [0, 3, 7]), (5, [0, 3]), (6, [0, 3]), (7, [2])]) [] []) (mkCf_ok te_ok (l := []) (trivial) mixed_ok) Tryz.func18 rfl rfl rfl (by simp [mkCf]) (by simp [mkCf]) (rs := [.tmp 2]) rfl 100000 ?_⟩
  simp only [↓XC, XV, XT, forall_const, implies_true, reduceIte, Nat.reduceAdd, Nat.reduceLT, Nat.reduceEqDiff, Nat.reduceBEq, Nat.reduceLeDiff, reduceCtorEq, Nat.reduceSub, Nat.reduceMul, Int.reduceToNat, Int.reduceLT, Int.reduceLE, TES, XR]
  refine ⟨fun h => by rw [mtx, if_pos h], fun h => ?_⟩
  refine VLoops.of (ι := {x : Nat × List UInt8 // DecInv k.toNat x.1 x.2}) (fun x => ⟨[(0, .i .i64 (x.1.1 : Nat)), (3, .s x.1.2)], []⟩) (fun x => x.1.1) ⟨(k.toNat, []), Nat.le_refl _, by rw [if_neg (by omega)]; simp⟩ (by rw [show ((k.toNat : Nat) : Int) = k by omega]; exact Ent.refl _ _) ?_
  rintro ⟨⟨m, out⟩, hm⟩
  simp only [↓XC, XV, XT, forall_const, implies_true, reduceIte, Nat.reduceAdd, Nat.reduceLT, Nat.reduceEqDiff, Nat.reduceBEq, Nat.reduceLeDiff, reduceCtorEq, Nat.reduceSub, Nat.reduceMul, Int.reduceToNat, Int.reduceLT, Int.reduceLE, TES]
  have e1 : (m : Int).tmod 10 = ((m % 10 : Nat) : Int) := tmod_nat m 10
  have e2 : (m : Int).tdiv 10 = ((m / 10 : Nat) : Int) := tdiv_nat m 10
  simp only [e1, e2]
  have e3 : ((48 : Int) + ((m % 10 : Nat) : Int)).toNat = 48 + m % 10 := by omega
  have hl := hm.len
  have hmk : m ≤ k.toNat := hm.1
  simp only at hm hl
  refine ⟨fun hc => Chk.mk (by decide) fun _ => Chk.mk (by simp only [inR]; omega) fun _ => Chk.mk (by simp only [inR]; omega) fun _ => ⟨isU8_one, Chk.mk (by omega) fun _ => ⟨by decide, Chk.mk (by simp only [inR]; omega) fun _ => ?_⟩⟩, fun hc => Chk.mk (by omega) fun _ => ?_⟩
  · rw [e3]
    exact ⟨⟨(m / 10, UInt8.ofNat (48 + m % 10) :: out), hm.step (by omega)⟩, by simp only; omega, Ent.nil (by simp [entEnv, Vg.look, SV.mapH])⟩
  · have hm0 : m = 0 := by omega
    subst hm0
    have := hm.2
    rw [if_pos rfl] at this
    rw [mtx, if_neg h, this]
noncomputable def pe_markText : PE := peR (fun (k : Int) => [.i .i64 k]) (fun (k : Int) => k ≤ 1073741824) (fun (k : Int) => .s (mtx k))
theorem pe_markText_eq {k : Int} : pe_markText [.i .i64 k] = some (k ≤ 1073741824, .s (mtx k)) := peR_eq (by rintro a b h; simp_all []) k
theorem pe_markText_ok : PE1 Tryz.prog 18 pe_markText := peR_ok (by rintro k hp; exact markText k hp)
theorem markEventS (a : List Ev) (k : Int) (hp : a.length ≤ 16777216 ∧ 0 ≤ k ∧ k ≤ 1048577) : FnK Tryz.prog 7 1 [.slc 0 0 a.length, .i .i64 k] [some (.row false 8 a.length (rowE evc evz a))] (fun z c => z = .i .i64 (k + 8 * a.length) ∧ c = [some (.row false 8 a.length (rowE evc evz (mkL evm 8 k a.length)))]) := by
  refine FnK.ofE (cf := mkCf Tryz.prog te [(18, pe_markText)] 74 1 false (fun _ => false) (kp [(0, [0, 1]), (1, [0, 1, 5]), (2, [0, 1, 5, 9]), (3, [0, 1, 5]), (4, [0, 1, 5]), (5, [0, 1, 5]), (6, [0, 1, 5]), (7, [0, 1, 5]), (8, [0, 1, 5]), (9, [0, 1, 5]), (10, [0, 1, 5]), (11, [0, 1, 5]), (12, [0, 1, 5]), (13, [0, 1, 5]), (14, [0, 1, 5]), (15, [0, 1, 5]), (16, [0, 1, 5]), (17, [0, 1, 5]), (18, [0, 1, 5]), (19, [0, 1, 5]), (20, [4])]) [] []) (mkCf_ok te_ok (l := [(18, pe_markText)]) (⟨pe_markText_ok, trivial⟩) mixed_ok) Tryz.func7 rfl rfl rfl (by simp [mkCf]) (by simp [mkCf]) (rs := [.tmp 4]) rfl 100000 ?_
  simp only [↓XC, XV, XT, forall_const, implies_true, reduceIte, Nat.reduceAdd, Nat.reduceLT, Nat.reduceEqDiff, Nat.reduceBEq, Nat.reduceLeDiff, reduceCtorEq, Nat.reduceSub, Nat.reduceMul, Int.reduceToNat, Int.reduceLT, Int.reduceLE, TES, pe_markText_eq, XR, XRE]
  refine VLoops.of (ι := {i : Nat // i ≤ a.length}) (fun x => ⟨[(0, .slc 0 0 a.length), (1, .i .i64 (k + 8 * (x.1 : Nat))), (5, .i .i64 (x.1 : Nat))], [some (.row false 8 a.length (rowE evc evz (mkd evm 8 k a x.1)))]⟩) (fun x => a.length - x.1) ⟨0, Nat.zero_le _⟩ (by simp only [Int.natCast_zero, Int.mul_zero, Int.add_zero, mkd_zero]; exact Ent.refl _ _) ?_
  rintro ⟨i, hi⟩
  simp only [↓XC, XV, XT, forall_const, implies_true, reduceIte, Nat.reduceAdd, Nat.reduceLT, Nat.reduceEqDiff, Nat.reduceBEq, Nat.reduceLeDiff, reduceCtorEq, Nat.reduceSub, Nat.reduceMul, Int.reduceToNat, Int.reduceLT, Int.reduceLE, TES, pe_markText_eq, XR, XRE]
  refine ⟨fun h => ?_, fun h => ?_⟩
  · repeat (refine Chk.mk (by first | omega | (simp only [inR]; omega)) fun _ => ?_)
    refine ⟨⟨i + 1, by omega⟩, by simp only; omega, ?_⟩
    have e8 : k + 8 * (i : Int) + 1 + 1 + 1 + 1 + 1 + 1 + 1 + 1 = k + 8 * ((i + 1 : Nat) : Int) := by omega
    simp only [e8, Int.natCast_add, Int.natCast_one]
    refine (Ent.ren1 [0] (by decide) (by simp only [entCtx, at_cons_zero, at_cons_succ, and_true, true_and]; exact soLe_mark (fun _ => rfl) fun j hj => by ((by_cases h7 : j = i); (simp only [if_pos h7, rowE, evc, evm, List.set_cons_zero, List.set_cons_succ, Int.add_assoc, Int.reduceAdd]); (simp only [if_neg h7]; rfl))) (by simp [entEnv, Vg.look, SV.mapH, muL]))
  · have hia : i = a.length := by omega
    subst hia
    rw [mkd_all]
    exact ⟨[0], by decide, by simp only [entCtx, at_cons_zero, at_cons_succ, and_true, true_and]; exact soLe_same fun _ => rfl, by simp only [↓XC, XV, XT, forall_const, implies_true, reduceIte, Nat.reduceAdd, Nat.reduceLT, Nat.reduceEqDiff, Nat.reduceBEq, Nat.reduceLeDiff, reduceCtorEq, Nat.reduceSub, Nat.reduceMul, Int.reduceToNat, Int.reduceLT, Int.reduceLE]; try simp [muL, SV.mapH, mapHL], by simp [newRw, SO.ro], by simp⟩
theorem heldEventS (a : List Ev) (k : Int) (hp : a = mkL evm 8 k a.length ∧ a.length ≤ 16777216 ∧ 0 ≤ k ∧ k ≤ 1048577) : PF Tryz.prog 8 [.fs 8 (a.map evc), .i .i64 k] (.i .i64 (k + 8 * a.length)) := by
  refine ⟨rfl, rfl, FnK.of (cf := mkCf Tryz.prog te [(18, pe_markText)] 90 0 false (fun _ => false) (kp [(0, [0, 1]), (1, [0, 1, 5]), (2, [0, 1, 5, 9]), (3, [0, 1, 5]), (4, [0, 1, 5, 18]), (5, [4]), (6, [0, 1, 5]), (7, [0, 1, 5, 27]), (8, [4]), (9, [0, 1, 5]), (10, [0, 1, 5, 38]), (11, [4]), (12, [0, 1, 5]), (13, [0, 1, 5, 48]), (14, [4]), (15, [0, 1, 5]), (16, [0, 1, 5, 58]), (17, [4]), (18, [0, 1, 5]), (19, [0, 1, 5, 68]), (20, [4]), (21, [0, 1, 5]), (22, [0, 1, 5, 77]), (23, [4]), (24, [0, 1, 5]), (25, [0, 1, 5, 86]), (26, [4]), (27, [0, 1, 5]), (28, [4])]) [] [(13, [], [], .q1 0 (.q1 1 (.q1 2 (.q1 3 (.q1 5 (.q0 4 [4] (.alt 6 (.q1 7 (.fin)) (.fin)))))))), (16, [], [], .q1 0 (.q1 1 (.q1 2 (.q1 3 (.q1 5 (.q0 4 [4] (.alt 6 (.q1 7 (.fin)) (.fin)))))))), (19, [], [], .q1 0 (.q1 1 (.q1 2 (.q1 3 (.q1 5 (.q0 4 [4] (.alt 6 (.q1 7 (.fin)) (.fin))))))))]) (mkCf_ok te_ok (l := [(18, pe_markText)]) (⟨pe_markText_ok, trivial⟩) mixed_ok) Tryz.func8 rfl rfl rfl (by simp [mkCf]) (by simp [mkCf]) (rs := [.tmp 4]) rfl 100000 ?_⟩
  simp only [↓XC, XV, XT, forall_const, implies_true, reduceIte, Nat.reduceAdd, Nat.reduceLT, Nat.reduceEqDiff, Nat.reduceBEq, Nat.reduceLeDiff, reduceCtorEq, Nat.reduceSub, Nat.reduceMul, Int.reduceToNat, Int.reduceLT, Int.reduceLE, TES, pe_markText_eq, XR, XRE]
  refine VLoops.of (ι := {i : Nat // i ≤ a.length}) (fun x => ⟨[(0, .fs 8 (a.map evc)), (1, .i .i64 (k + 8 * (x.1 : Nat))), (5, .i .i64 (x.1 : Nat))], []⟩) (fun x => a.length - x.1) ⟨0, Nat.zero_le _⟩ (by simp only [Int.natCast_zero, Int.mul_zero, Int.add_zero]; exact Ent.refl _ _) ?_
  rintro ⟨i, hi⟩
  simp only [↓XC, XV, XT, forall_const, implies_true, reduceIte, Nat.reduceAdd, Nat.reduceLT, Nat.reduceEqDiff, Nat.reduceBEq, Nat.reduceLeDiff, reduceCtorEq, Nat.reduceSub, Nat.reduceMul, Int.reduceToNat, Int.reduceLT, Int.reduceLE, TES, pe_markText_eq, XR, XRE]
  have hx : i < a.length → a.getD i evz = evm (k + 8 * i) := fun h => by
    have := mkL_get (g := evm) (c := 8) evz (n := a.length) (k := k) h
    rw [← hp.1] at this
    rw [this]
  refine ⟨fun h => ?_, fun h => by rw [show i = a.length by omega]⟩
  rw [hx (by omega)]
  have e8 : k + (8 * (i : Int) + 8) = k + 8 * ((i + 1 : Nat) : Int) := by omega
  simp only [evm, Int.add_assoc, Int.reduceAdd, eq_self, decide_true, Bool.not_true, Bool.false_eq_true, false_implies, true_and, beq_self_eq_true, forall_const, e8]
  repeat' (first | with_reducible refine Chk.mk ?_ fun _ => ?_ | with_reducible refine And.intro ?_ ?_ | intro _)
  all_goals first
    | omega
    | (simp only [inR]; omega)
    | (with_reducible refine (?_ : schAll _ _ _ = true); decide +kernel)
    | (exfalso; rename_i h9; simp at h9; done)
    | (refine ⟨⟨i + 1, by omega⟩, by simp only; omega, ?_⟩; simp only [Int.natCast_add, Int.natCast_one]; exact Ent.refl _ _)
noncomputable def pe_heldEventS : PE := peR (fun (x : List Ev × Int) => match x with | (a, k) => [.fs 8 (a.map evc), .i .i64 k]) (fun (x : List Ev × Int) => match x with | (a, k) => a = mkL evm 8 k a.length ∧ a.length ≤ 16777216 ∧ 0 ≤ k ∧ k ≤ 1048577) (fun (x : List Ev × Int) => match x with | (a, k) => .i .i64 (k + 8 * a.length))
theorem pe_heldEventS_eq {a : List Ev} {k : Int} : pe_heldEventS [.fs 8 (a.map evc), .i .i64 k] = some (a = mkL evm 8 k a.length ∧ a.length ≤ 16777216 ∧ 0 ≤ k ∧ k ≤ 1048577, .i .i64 (k + 8 * a.length)) := peR_eq (by rintro ⟨a0, a1⟩ ⟨b0, b1⟩ h; simp_all [evc_inj]) (a, k)
theorem pe_heldEventS_ok : PE1 Tryz.prog 8 pe_heldEventS := peR_ok (by rintro ⟨a, k⟩ hp; exact heldEventS a k hp)
end Go.T44
end
