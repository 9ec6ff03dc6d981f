/- Own text: part MarkA. -/
import Derived.Test.YtjphhddbkjdbnaaTypes2
import Derived.Test.YtjphhddbkjdbnaaEventA
import Derived.Test.YtjphhddbkjdbnaaEventB
import Derived.Test.YtjphhddbkjdbnaaBaseE
import Derived.Test.YtjphhddbkjdbnaaVgLd
import Derived.Test.YtjphhddbkjdbnaaVgSg
namespace Go.T44
open Go.Proofs Go.Vg Go.RowKit Go.TT Go.Pl Go.T8 Go.T12 Go.T13
set_option linter.unusedVariables false
set_option linter.unusedSimpArgs false
set_option maxRecDepth 10000
set_option maxHeartbeats 4000000
theorem markText (k : Int) (hp : k ≤ 1073741824) : PF Try.prog 56 [.i .i64 k] (.s (mtx k)) := by
  refine ⟨rfl, rfl, FnK.of (cf := mkCf Try.prog te [] 20 0 false (fun _ => false) (kp [(0, [0]), (1, [0, 5]), (2, [2]), (3, [0, 3]), (4, [0, 3, 7]), (5, [0, 3]), (6, [0, 3]), (7, [2])]) [] []) (mkCf_ok te_ok (l := []) (trivial) mixed_ok) Try.func56 rfl rfl rfl (by simp [mkCf]) (by simp [mkCf]) (rs := [.tmp 2]) rfl 100000 ?_⟩
  simp only [↓XC, XV, entry, isStr, tdOf, szOf, zeroOf, TD.isStruct, okCell, cellsOf, SO.isMap, SO.sz, SO.el, SO.n, SO.ro, mkCf, quietOp, opClass, okLeaf, spl, cellV, isU8T, isSlS, fillS, fillP, repl, SO.put, SV.mapH, frzV, frzVL, frzOk, frzOkL, lendOk, SV.bit, bitL, SV.plain, plainL, isE, mapHL, strip, stripL, gok, gokL, forall_const, implies_true, reduceIte, Nat.reduceAdd, Nat.reduceLT, Nat.reduceEqDiff, Nat.reduceBEq, Nat.reduceLeDiff, reduceCtorEq, Nat.reduceSub, Nat.reduceMul, Int.reduceToNat, Int.reduceLT, Int.reduceLE, TES, XR]
  refine ⟨fun h => by rw [mtx, if_pos h], fun h => ?_⟩
  refine VLoops.of (ι := {x : Nat × List UInt8 // DecInv k.toNat x.1 x.2}) (fun x => ⟨[(0, .i .i64 (x.1.1 : Nat)), (3, .s x.1.2)], []⟩) (fun x => x.1.1) ⟨(k.toNat, []), Nat.le_refl _, by rw [if_neg (by omega)]; simp⟩ (by rw [show ((k.toNat : Nat) : Int) = k by omega]; exact Ent.refl _ _) ?_
  rintro ⟨⟨m, out⟩, hm⟩
  simp only [↓XC, XV, entry, isStr, tdOf, szOf, zeroOf, TD.isStruct, okCell, cellsOf, SO.isMap, SO.sz, SO.el, SO.n, SO.ro, mkCf, quietOp, opClass, okLeaf, spl, cellV, isU8T, isSlS, fillS, fillP, repl, SO.put, SV.mapH, frzV, frzVL, frzOk, frzOkL, lendOk, SV.bit, bitL, SV.plain, plainL, isE, mapHL, strip, stripL, gok, gokL, forall_const, implies_true, reduceIte, Nat.reduceAdd, Nat.reduceLT, Nat.reduceEqDiff, Nat.reduceBEq, Nat.reduceLeDiff, reduceCtorEq, Nat.reduceSub, Nat.reduceMul, Int.reduceToNat, Int.reduceLT, Int.reduceLE, TES]
  have e1 : (m : Int).tmod 10 = ((m % 10 : Nat) : Int) := tmod_nat m 10
  have e2 : (m : Int).tdiv 10 = ((m / 10 : Nat) : Int) := tdiv_nat m 10
  simp only [e1, e2]
  have e3 : ((48 : Int) + ((m % 10 : Nat) : Int)).toNat = 48 + m % 10 := by omega
  have hl := hm.len
  have hmk : m ≤ k.toNat := hm.1
  simp only at hm hl
  refine ⟨fun hc => Chk.mk (by decide) fun _ => Chk.mk (by simp only [inR]; omega) fun _ => Chk.mk (by simp only [inR]; omega) fun _ => ⟨isU8_one, Chk.mk (by omega) fun _ => ⟨by decide, Chk.mk (by simp only [inR]; omega) fun _ => ?_⟩⟩, fun hc => Chk.mk (by omega) fun _ => ?_⟩
  · rw [e3]
    exact ⟨⟨(m / 10, UInt8.ofNat (48 + m % 10) :: out), hm.step (by omega)⟩, by simp only; omega, Ent.nil (by simp [entEnv, Vg.look, SV.mapH])⟩
  · have hm0 : m = 0 := by omega
    subst hm0
    have := hm.2
    rw [if_pos rfl] at this
    rw [mtx, if_neg h, this]
noncomputable def pe_markText : PE := peR (fun (k : Int) => [.i .i64 k]) (fun (k : Int) => k ≤ 1073741824) (fun (k : Int) => .s (mtx k))
theorem pe_markText_eq {k : Int} : pe_markText [.i .i64 k] = some (k ≤ 1073741824, .s (mtx k)) := peR_eq (by rintro a b h; simp_all []) k
theorem pe_markText_ok : PE1 Try.prog 56 pe_markText := peR_ok (by rintro k hp; exact markText k hp)
theorem eqIntS (a b : List Int) (hp : a.length ≤ 1048576) : PF Try.prog 23 [.fs 1 (a.map intc), .fs 1 (b.map intc)] (.b (decide (a = b))) := by
  refine ⟨rfl, rfl, FnK.of (cf := mkCf Try.prog te [] 26 0 false (fun _ => false) (kp [(0, [0, 1]), (1, [0, 1, 10]), (2, [4]), (3, [0, 1, 5]), (4, [0, 1, 5, 14]), (5, [0, 1, 5]), (6, [0, 1, 5, 25]), (7, [4]), (8, [4])]) [] [(6, [], [], .q1 0 (.q1 1 (.q1 2 (.q1 4 (.q1 5 (.q1 6 (.q0 3 [3] (.q0 7 [7] (.q1 8 (.fin))))))))))]) (mkCf_ok te_ok (l := []) (trivial) mixed_ok) Try.func23 rfl rfl rfl (by simp [mkCf]) (by simp [mkCf]) (rs := [.tmp 4]) rfl 100000 ?_⟩
  simp only [↓XC, XV, entry, isStr, tdOf, szOf, zeroOf, TD.isStruct, okCell, cellsOf, SO.isMap, SO.sz, SO.el, SO.n, SO.ro, mkCf, quietOp, opClass, okLeaf, spl, cellV, isU8T, isSlS, fillS, fillP, repl, SO.put, SV.mapH, frzV, frzVL, frzOk, frzOkL, lendOk, SV.bit, bitL, SV.plain, plainL, isE, mapHL, strip, stripL, gok, gokL, forall_const, implies_true, reduceIte, Nat.reduceAdd, Nat.reduceLT, Nat.reduceEqDiff, Nat.reduceBEq, Nat.reduceLeDiff, reduceCtorEq, Nat.reduceSub, Nat.reduceMul, Int.reduceToNat, Int.reduceLT, Int.reduceLE, TES, XR]
  refine ⟨fun h => ?_, fun h => ?_⟩
  · have : a ≠ b := by intro e; subst e; simp at h
    simp [this]
  have hlen : a.length = b.length := by simp at h; omega
  refine VLoops.of (ι := {i : Nat // i ≤ a.length ∧ ∀ j, j < i → a.getD j 0 = b.getD j 0}) (fun x => ⟨[(0, .fs 1 (a.map intc)), (1, .fs 1 (b.map intc)), (5, .i .i64 (x.1 : Nat))], []⟩) (fun x => a.length - x.1) ⟨0, Nat.zero_le _, fun j hj => absurd hj (Nat.not_lt_zero _)⟩ (Ent.refl _ _) ?_
  rintro ⟨i, hi, hj⟩
  simp only [↓XC, XV, entry, isStr, tdOf, szOf, zeroOf, TD.isStruct, okCell, cellsOf, SO.isMap, SO.sz, SO.el, SO.n, SO.ro, mkCf, quietOp, opClass, okLeaf, spl, cellV, isU8T, isSlS, fillS, fillP, repl, SO.put, SV.mapH, frzV, frzVL, frzOk, frzOkL, lendOk, SV.bit, bitL, SV.plain, plainL, isE, mapHL, strip, stripL, gok, gokL, forall_const, implies_true, reduceIte, Nat.reduceAdd, Nat.reduceLT, Nat.reduceEqDiff, Nat.reduceBEq, Nat.reduceLeDiff, reduceCtorEq, Nat.reduceSub, Nat.reduceMul, Int.reduceToNat, Int.reduceLT, Int.reduceLE, TES, XR]
  refine ⟨fun h => ⟨by decide +kernel, Chk.mk (by omega) fun _ => Chk.mk (by omega) fun _ => ⟨fun hne => ?_, fun hne => Chk.mk (by simp only [inR]; omega) fun _ => ⟨⟨i + 1, by omega, ?_⟩, by simp only; omega, (by first | exact Ent.refl _ _ | (simp only [Int.natCast_add, Int.natCast_one]; exact Ent.refl _ _))⟩⟩⟩, fun h => ?_⟩
  · have : a ≠ b := by intro e; subst e; simp at hne
    simp [this]
  · intro j hjj
    rcases Nat.lt_or_ge j i with h1 | h1
    · exact hj j h1
    · have : j = i := by omega
      subst this
      simpa using hne
  · have : a = b := eq_of_getD 0 hlen fun j h1 => hj j (by omega)
    simp [this]
noncomputable def pe_eqIntS : PE := peR (fun (x : List Int × List Int) => match x with | (a, b) => [.fs 1 (a.map intc), .fs 1 (b.map intc)]) (fun (x : List Int × List Int) => match x with | (a, b) => a.length ≤ 1048576) (fun (x : List Int × List Int) => match x with | (a, b) => .b (decide (a = b)))
theorem pe_eqIntS_eq {a b : List Int} : pe_eqIntS [.fs 1 (a.map intc), .fs 1 (b.map intc)] = some (a.length ≤ 1048576, .b (decide (a = b))) := peR_eq (by rintro ⟨a0, a1⟩ ⟨b0, b1⟩ h; simp_all [intc_inj]) (a, b)
theorem pe_eqIntS_ok : PE1 Try.prog 23 pe_eqIntS := peR_ok (by rintro ⟨a, b⟩ hp; exact eqIntS a b hp)
theorem markIntS (a : List Int) (k : Int) (hp : a.length ≤ 1048576 ∧ 0 ≤ k ∧ k ≤ 1048577) : FnK Try.prog 25 1 [.slc 0 0 a.length, .i .i64 k] [some (.row false 1 a.length (rowE intc 0 a))] (fun z c => z = .i .i64 (k + a.length) ∧ c = [some (.row false 1 a.length (rowE intc 0 (mkL idI 1 k a.length)))]) := by
  refine FnK.ofE (cf := mkCf Try.prog te [] 19 1 false (fun _ => false) (kp [(0, [0, 1]), (1, [0, 1, 5]), (2, [0, 1, 5, 9]), (3, [0, 1, 5]), (4, [0, 1, 5]), (5, [0, 1, 5]), (6, [4])]) [] []) (mkCf_ok te_ok (l := []) (trivial) mixed_ok) Try.func25 rfl rfl rfl (by simp [mkCf]) (by simp [mkCf]) (rs := [.tmp 4]) rfl 100000 ?_
  simp only [↓XC, XV, entry, isStr, tdOf, szOf, zeroOf, TD.isStruct, okCell, cellsOf, SO.isMap, SO.sz, SO.el, SO.n, SO.ro, mkCf, quietOp, opClass, okLeaf, spl, cellV, isU8T, isSlS, fillS, fillP, repl, SO.put, SV.mapH, frzV, frzVL, frzOk, frzOkL, lendOk, SV.bit, bitL, SV.plain, plainL, isE, mapHL, strip, stripL, gok, gokL, forall_const, implies_true, reduceIte, Nat.reduceAdd, Nat.reduceLT, Nat.reduceEqDiff, Nat.reduceBEq, Nat.reduceLeDiff, reduceCtorEq, Nat.reduceSub, Nat.reduceMul, Int.reduceToNat, Int.reduceLT, Int.reduceLE, TES, XR]
  refine VLoops.of (ι := {i : Nat // i ≤ a.length}) (fun x => ⟨[(0, .slc 0 0 a.length), (1, .i .i64 (k + (x.1 : Nat))), (5, .i .i64 (x.1 : Nat))], [some (.row false 1 a.length (rowE intc 0 (mkd idI 1 k a x.1)))]⟩) (fun x => a.length - x.1) ⟨0, Nat.zero_le _⟩ (by simp only [Int.natCast_zero, Int.add_zero, mkd_zero]; exact Ent.refl _ _) ?_
  rintro ⟨i, hi⟩
  simp only [↓XC, XV, entry, isStr, tdOf, szOf, zeroOf, TD.isStruct, okCell, cellsOf, SO.isMap, SO.sz, SO.el, SO.n, SO.ro, mkCf, quietOp, opClass, okLeaf, spl, cellV, isU8T, isSlS, fillS, fillP, repl, SO.put, SV.mapH, frzV, frzVL, frzOk, frzOkL, lendOk, SV.bit, bitL, SV.plain, plainL, isE, mapHL, strip, stripL, gok, gokL, forall_const, implies_true, reduceIte, Nat.reduceAdd, Nat.reduceLT, Nat.reduceEqDiff, Nat.reduceBEq, Nat.reduceLeDiff, reduceCtorEq, Nat.reduceSub, Nat.reduceMul, Int.reduceToNat, Int.reduceLT, Int.reduceLE, TES, XR]
  refine ⟨fun h => Chk.mk (by omega) fun _ => Chk.mk (by omega) fun _ => Chk.mk (by simp only [inR]; omega) fun _ => Chk.mk (by simp only [inR]; omega) fun _ => ⟨⟨i + 1, by omega⟩, by simp only; omega, ?_⟩, fun h => ?_⟩
  · simp only [Int.natCast_add, Int.natCast_one, ← Int.add_assoc]
    refine (Ent.ren1 [0] (by decide) (by simp only [entCtx, at_cons_zero, at_cons_succ, and_true, true_and]; exact soLe_mark (fun _ => rfl) fun j hj => by simp only [Int.one_mul]; rfl) (by simp [entEnv, Vg.look, SV.mapH, muL]))
  · have hia : i = a.length := by omega
    subst hia
    rw [mkd_all]
    exact ⟨[0], by decide, by simp only [entCtx, at_cons_zero, at_cons_succ, and_true, true_and]; exact soLe_same fun _ => rfl, by simp only [↓XC, XV, entry, isStr, tdOf, szOf, zeroOf, TD.isStruct, okCell, cellsOf, SO.isMap, SO.sz, SO.el, SO.n, SO.ro, mkCf, quietOp, opClass, okLeaf, spl, cellV, isU8T, isSlS, fillS, fillP, repl, SO.put, SV.mapH, frzV, frzVL, frzOk, frzOkL, lendOk, SV.bit, bitL, SV.plain, plainL, isE, mapHL, strip, stripL, gok, gokL, forall_const, implies_true, reduceIte, Nat.reduceAdd, Nat.reduceLT, Nat.reduceEqDiff, Nat.reduceBEq, Nat.reduceLeDiff, reduceCtorEq, Nat.reduceSub, Nat.reduceMul, Int.reduceToNat, Int.reduceLT, Int.reduceLE]; try simp [muL, SV.mapH, mapHL], by simp [newRw, SO.ro], by simp⟩
theorem heldIntS (a : List Int) (k : Int) (hp : a = mkL idI 1 k a.length ∧ a.length ≤ 1048576 ∧ 0 ≤ k ∧ k ≤ 1048577) : PF Try.prog 26 [.fs 1 (a.map intc), .i .i64 k] (.i .i64 (k + a.length)) := by
  refine ⟨rfl, rfl, FnK.of (cf := mkCf Try.prog te [] 21 0 false (fun _ => false) (kp [(0, [0, 1]), (1, [0, 1, 5]), (2, [0, 1, 5, 9]), (3, [0, 1, 5]), (4, [0, 1, 5, 17]), (5, [4]), (6, [0, 1, 5]), (7, [4])]) [] []) (mkCf_ok te_ok (l := []) (trivial) mixed_ok) Try.func26 rfl rfl rfl (by simp [mkCf]) (by simp [mkCf]) (rs := [.tmp 4]) rfl 100000 ?_⟩
  simp only [↓XC, XV, entry, isStr, tdOf, szOf, zeroOf, TD.isStruct, okCell, cellsOf, SO.isMap, SO.sz, SO.el, SO.n, SO.ro, mkCf, quietOp, opClass, okLeaf, spl, cellV, isU8T, isSlS, fillS, fillP, repl, SO.put, SV.mapH, frzV, frzVL, frzOk, frzOkL, lendOk, SV.bit, bitL, SV.plain, plainL, isE, mapHL, strip, stripL, gok, gokL, forall_const, implies_true, reduceIte, Nat.reduceAdd, Nat.reduceLT, Nat.reduceEqDiff, Nat.reduceBEq, Nat.reduceLeDiff, reduceCtorEq, Nat.reduceSub, Nat.reduceMul, Int.reduceToNat, Int.reduceLT, Int.reduceLE, TES, XR]
  refine VLoops.of (ι := {i : Nat // i ≤ a.length}) (fun x => ⟨[(0, .fs 1 (a.map intc)), (1, .i .i64 (k + (x.1 : Nat))), (5, .i .i64 (x.1 : Nat))], []⟩) (fun x => a.length - x.1) ⟨0, Nat.zero_le _⟩ (by simp only [Int.natCast_zero, Int.add_zero]; exact Ent.refl _ _) ?_
  rintro ⟨i, hi⟩
  simp only [↓XC, XV, entry, isStr, tdOf, szOf, zeroOf, TD.isStruct, okCell, cellsOf, SO.isMap, SO.sz, SO.el, SO.n, SO.ro, mkCf, quietOp, opClass, okLeaf, spl, cellV, isU8T, isSlS, fillS, fillP, repl, SO.put, SV.mapH, frzV, frzVL, frzOk, frzOkL, lendOk, SV.bit, bitL, SV.plain, plainL, isE, mapHL, strip, stripL, gok, gokL, forall_const, implies_true, reduceIte, Nat.reduceAdd, Nat.reduceLT, Nat.reduceEqDiff, Nat.reduceBEq, Nat.reduceLeDiff, reduceCtorEq, Nat.reduceSub, Nat.reduceMul, Int.reduceToNat, Int.reduceLT, Int.reduceLE, TES, XR]
  have hx : i < a.length → a.getD i 0 = k + i := fun h => by
    have := mkL_get (g := idI) (c := 1) 0 (n := a.length) (k := k) h
    rw [← hp.1] at this
    rw [this, Int.one_mul]
    rfl
  refine ⟨fun h => Chk.mk (by omega) fun _ => ⟨fun hne => by rw [hx (by omega)] at hne; simp at hne, fun _ => Chk.mk (by simp only [inR]; omega) fun _ => Chk.mk (by simp only [inR]; omega) fun _ => ⟨⟨i + 1, by omega⟩, by simp only; omega, ?_⟩⟩, fun h => ?_⟩
  · simp only [Int.natCast_add, Int.natCast_one, ← Int.add_assoc]; exact Ent.refl _ _
  · rw [show i = a.length by omega]
noncomputable def pe_heldIntS : PE := peR (fun (x : List Int × Int) => match x with | (a, k) => [.fs 1 (a.map intc), .i .i64 k]) (fun (x : List Int × Int) => match x with | (a, k) => a = mkL idI 1 k a.length ∧ a.length ≤ 1048576 ∧ 0 ≤ k ∧ k ≤ 1048577) (fun (x : List Int × Int) => match x with | (a, k) => .i .i64 (k + a.length))
theorem pe_heldIntS_eq {a : List Int} {k : Int} : pe_heldIntS [.fs 1 (a.map intc), .i .i64 k] = some (a = mkL idI 1 k a.length ∧ a.length ≤ 1048576 ∧ 0 ≤ k ∧ k ≤ 1048577, .i .i64 (k + a.length)) := peR_eq (by rintro ⟨a0, a1⟩ ⟨b0, b1⟩ h; simp_all [intc_inj]) (a, k)
theorem pe_heldIntS_ok : PE1 Try.prog 26 pe_heldIntS := peR_ok (by rintro ⟨a, k⟩ hp; exact heldIntS a k hp)
theorem markEventS (a : List Ev) (k : Int) (hp : a.length ≤ 1048576 ∧ 0 ≤ k ∧ k ≤ 1048577) : FnK Try.prog 24 1 [.slc 0 0 a.length, .i .i64 k] [some (.row false 8 a.length (rowE evc evz a))] (fun z c => z = .i .i64 (k + 8 * a.length) ∧ c = [some (.row false 8 a.length (rowE evc evz (mkL evm 8 k a.length)))]) := by
  refine FnK.ofE (cf := mkCf Try.prog te [(56, pe_markText)] 74 1 false (fun _ => false) (kp [(0, [0, 1]), (1, [0, 1, 5]), (2, [0, 1, 5, 9]), (3, [0, 1, 5]), (4, [0, 1, 5]), (5, [0, 1, 5]), (6, [0, 1, 5]), (7, [0, 1, 5]), (8, [0, 1, 5]), (9, [0, 1, 5]), (10, [0, 1, 5]), (11, [0, 1, 5]), (12, [0, 1, 5]), (13, [0, 1, 5]), (14, [0, 1, 5]), (15, [0, 1, 5]), (16, [0, 1, 5]), (17, [0, 1, 5]), (18, [0, 1, 5]), (19, [0, 1, 5]), (20, [4])]) [] []) (mkCf_ok te_ok (l := [(56, pe_markText)]) (⟨pe_markText_ok, trivial⟩) mixed_ok) Try.func24 rfl rfl rfl (by simp [mkCf]) (by simp [mkCf]) (rs := [.tmp 4]) rfl 100000 ?_
  simp only [↓XC, XV, entry, isStr, tdOf, szOf, zeroOf, TD.isStruct, okCell, cellsOf, SO.isMap, SO.sz, SO.el, SO.n, SO.ro, mkCf, quietOp, opClass, okLeaf, spl, cellV, isU8T, isSlS, fillS, fillP, repl, SO.put, SV.mapH, frzV, frzVL, frzOk, frzOkL, lendOk, SV.bit, bitL, SV.plain, plainL, isE, mapHL, strip, stripL, gok, gokL, forall_const, implies_true, reduceIte, Nat.reduceAdd, Nat.reduceLT, Nat.reduceEqDiff, Nat.reduceBEq, Nat.reduceLeDiff, reduceCtorEq, Nat.reduceSub, Nat.reduceMul, Int.reduceToNat, Int.reduceLT, Int.reduceLE, TES, pe_markText_eq, XR, XRE]
  refine VLoops.of (ι := {i : Nat // i ≤ a.length}) (fun x => ⟨[(0, .slc 0 0 a.length), (1, .i .i64 (k + 8 * (x.1 : Nat))), (5, .i .i64 (x.1 : Nat))], [some (.row false 8 a.length (rowE evc evz (mkd evm 8 k a x.1)))]⟩) (fun x => a.length - x.1) ⟨0, Nat.zero_le _⟩ (by simp only [Int.natCast_zero, Int.mul_zero, Int.add_zero, mkd_zero]; exact Ent.refl _ _) ?_
  rintro ⟨i, hi⟩
  simp only [↓XC, XV, entry, isStr, tdOf, szOf, zeroOf, TD.isStruct, okCell, cellsOf, SO.isMap, SO.sz, SO.el, SO.n, SO.ro, mkCf, quietOp, opClass, okLeaf, spl, cellV, isU8T, isSlS, fillS, fillP, repl, SO.put, SV.mapH, frzV, frzVL, frzOk, frzOkL, lendOk, SV.bit, bitL, SV.plain, plainL, isE, mapHL, strip, stripL, gok, gokL, forall_const, implies_true, reduceIte, Nat.reduceAdd, Nat.reduceLT, Nat.reduceEqDiff, Nat.reduceBEq, Nat.reduceLeDiff, reduceCtorEq, Nat.reduceSub, Nat.reduceMul, Int.reduceToNat, Int.reduceLT, Int.reduceLE, TES, pe_markText_eq, XR, XRE]
  refine ⟨fun h => ?_, fun h => ?_⟩
  · repeat (refine Chk.mk (by first | omega | (simp only [inR]; omega)) fun _ => ?_)
    refine ⟨⟨i + 1, by omega⟩, by simp only; omega, ?_⟩
    have e8 : k + 8 * (i : Int) + 1 + 1 + 1 + 1 + 1 + 1 + 1 + 1 = k + 8 * ((i + 1 : Nat) : Int) := by omega
    simp only [e8, Int.natCast_add, Int.natCast_one]
    refine (Ent.ren1 [0] (by decide) (by simp only [entCtx, at_cons_zero, at_cons_succ, and_true, true_and]; exact soLe_mark (fun _ => rfl) fun j hj => by ((by_cases h7 : j = i); (simp only [if_pos h7, rowE, evc, evm, List.set_cons_zero, List.set_cons_succ, Int.add_assoc, Int.reduceAdd]); (simp only [if_neg h7]; rfl))) (by simp [entEnv, Vg.look, SV.mapH, muL]))
  · have hia : i = a.length := by omega
    subst hia
    rw [mkd_all]
    exact ⟨[0], by decide, by simp only [entCtx, at_cons_zero, at_cons_succ, and_true, true_and]; exact soLe_same fun _ => rfl, by simp only [↓XC, XV, entry, isStr, tdOf, szOf, zeroOf, TD.isStruct, okCell, cellsOf, SO.isMap, SO.sz, SO.el, SO.n, SO.ro, mkCf, quietOp, opClass, okLeaf, spl, cellV, isU8T, isSlS, fillS, fillP, repl, SO.put, SV.mapH, frzV, frzVL, frzOk, frzOkL, lendOk, SV.bit, bitL, SV.plain, plainL, isE, mapHL, strip, stripL, gok, gokL, forall_const, implies_true, reduceIte, Nat.reduceAdd, Nat.reduceLT, Nat.reduceEqDiff, Nat.reduceBEq, Nat.reduceLeDiff, reduceCtorEq, Nat.reduceSub, Nat.reduceMul, Int.reduceToNat, Int.reduceLT, Int.reduceLE]; try simp [muL, SV.mapH, mapHL], by simp [newRw, SO.ro], by simp⟩
end Go.T44
