/- Own text: part EventB. -/
import Derived.Test.YtjphhddbkjdbnaaTypes2
import Derived.Test.YtjphhddbkjdbnaaEventA
import Derived.Test.YtjphhddbkjdbnaaBaseE
namespace Go.T13
open Go.Proofs Go.Vg Go.RowKit Go.TT Go.Pl Go.T8 Go.T12
set_option linter.unusedVariables false
set_option linter.unusedSimpArgs false
set_option maxRecDepth 10000
set_option maxHeartbeats 4000000
theorem szEventS (a : List Ev) (l : Int) (hp : 0 ≤ l ∧ l ≤ 1048576 ∧ a.length ≤ 9223372036854775807 ∧ (∀ i, i < a.length → (a.getD i evz).text.length ≤ 9223372036854775807 ∧ (a.getD i evz).anchor.length ≤ 9223372036854775807 ∧ (a.getD i evz).tag.length ≤ 9223372036854775807)) : PF Try.prog 12 [.fs 8 (a.map evc), .i .i64 l] (.i .i64 (if l < a.length + evW a then -1 else l - (a.length + evW a))) := by
  refine ⟨rfl, rfl, FnK.of (cf := mkCf Try.prog te [(43, pe_szEvent)] 27 0 false (fun _ => false) (kp [(0, [0, 1]), (1, [0, 1]), (2, [0, 1, 11]), (3, [4]), (4, [0, 1, 5]), (5, [0, 1, 5, 15]), (6, [0, 1, 5]), (7, [0, 1, 5]), (8, [0, 1, 5, 25]), (9, [4]), (10, [4])]) [] []) (mkCf_ok te_ok (l := [(43, pe_szEvent)]) (⟨pe_szEvent_ok, trivial⟩) mixed_ok) Try.func12 rfl rfl rfl (by simp [mkCf]) (by simp [mkCf]) (rs := [.tmp 4]) rfl 100000 ?_⟩
  simp only [↓XC, XV, entry, isStr, tdOf, szOf, zeroOf, TD.isStruct, okCell, cellsOf, SO.isMap, SO.sz, SO.el, SO.n, SO.ro, mkCf, quietOp, opClass, okLeaf, spl, cellV, isU8T, isSlS, fillS, fillP, repl, SO.put, SV.mapH, frzV, frzVL, frzOk, frzOkL, lendOk, SV.bit, bitL, SV.plain, plainL, isE, mapHL, strip, stripL, gok, gokL, forall_const, implies_true, reduceIte, Nat.reduceAdd, Nat.reduceLT, Nat.reduceEqDiff, Nat.reduceBEq, Nat.reduceLeDiff, reduceCtorEq, Nat.reduceSub, Nat.reduceMul, Int.reduceToNat, Int.reduceLT, Int.reduceLE, TES, pe_szEvent_eq, XRE]
  obtain ⟨h1, h2, h3, h4⟩ := hp
  refine Chk.mk (by simp only [inR]; omega) fun _ => ⟨fun h => by rw [if_pos (by omega)], fun h => ?_⟩
  refine VLoops.of (ι := {i : Nat // i ≤ a.length ∧ a.length + evW (a.take i) ≤ l}) (fun x => ⟨[(0, .fs 8 (a.map evc)), (1, .i .i64 (l - (a.length + evW (a.take x.1)))), (5, .i .i64 (x.1 : Nat))], []⟩) (fun x => a.length - x.1) ⟨0, Nat.zero_le _, by simp [evW]; omega⟩ (by simp [evW]; exact Ent.refl _ _) ?_
  rintro ⟨i, hi, hs⟩
  simp only [↓XC, XV, entry, isStr, tdOf, szOf, zeroOf, TD.isStruct, okCell, cellsOf, SO.isMap, SO.sz, SO.el, SO.n, SO.ro, mkCf, quietOp, opClass, okLeaf, spl, cellV, isU8T, isSlS, fillS, fillP, repl, SO.put, SV.mapH, frzV, frzVL, frzOk, frzOkL, lendOk, SV.bit, bitL, SV.plain, plainL, isE, mapHL, strip, stripL, gok, gokL, forall_const, implies_true, reduceIte, Nat.reduceAdd, Nat.reduceLT, Nat.reduceEqDiff, Nat.reduceBEq, Nat.reduceLeDiff, reduceCtorEq, Nat.reduceSub, Nat.reduceMul, Int.reduceToNat, Int.reduceLT, Int.reduceLE, TES, pe_szEvent_eq, XRE]
  have hs2 := evW_le (l := a) i
  refine ⟨fun h5 => Chk.mk (by omega) fun _ => ?_, fun h5 => ?_⟩
  · have hg := h4 i (by omega)
    have ht := evW_take (l := a) (i := i) (by omega)
    have ht2 := evW_le (l := a) (i + 1)
    unfold evsz at ht
    refine Chk.mk ⟨by omega, by omega, hg⟩ fun _ => ⟨fun h6 => ?_, fun h6 => ?_⟩
    · split at h6
      · rw [if_pos (by omega)]
      · omega
    · have hj : (a.length : Int) + (evW (a.take (i + 1)) : Nat) ≤ l := by split at h6 <;> omega
      rw [if_neg (by omega)]
      rw [show l - ((a.length : Int) + (evW (a.take i) : Nat)) - (((a.getD i evz).text.length : Int) + ((a.getD i evz).anchor.length : Nat) + ((a.getD i evz).tag.length : Nat)) = l - (a.length + (evW (a.take (i + 1)) : Nat)) by omega]
      exact Chk.mk (by simp only [inR]; omega) fun _ => ⟨⟨i + 1, by omega, hj⟩, by simp only; omega, (by first | exact Ent.refl _ _ | (simp only [Int.natCast_add, Int.natCast_one]; exact Ent.refl _ _))⟩
  · rw [show a.take i = a by rw [show i = a.length by omega]; exact List.take_length] at hs ⊢
    rw [if_neg (by omega)]
noncomputable def pe_szEventS : PE := peR (fun (x : List Ev × Int) => match x with | (a, l) => [.fs 8 (a.map evc), .i .i64 l]) (fun (x : List Ev × Int) => match x with | (a, l) => 0 ≤ l ∧ l ≤ 1048576 ∧ a.length ≤ 9223372036854775807 ∧ (∀ i, i < a.length → (a.getD i evz).text.length ≤ 9223372036854775807 ∧ (a.getD i evz).anchor.length ≤ 9223372036854775807 ∧ (a.getD i evz).tag.length ≤ 9223372036854775807)) (fun (x : List Ev × Int) => match x with | (a, l) => .i .i64 (if l < a.length + evW a then -1 else l - (a.length + evW a)))
theorem pe_szEventS_eq {a : List Ev} {l : Int} : pe_szEventS [.fs 8 (a.map evc), .i .i64 l] = some (0 ≤ l ∧ l ≤ 1048576 ∧ a.length ≤ 9223372036854775807 ∧ (∀ i, i < a.length → (a.getD i evz).text.length ≤ 9223372036854775807 ∧ (a.getD i evz).anchor.length ≤ 9223372036854775807 ∧ (a.getD i evz).tag.length ≤ 9223372036854775807), .i .i64 (if l < a.length + evW a then -1 else l - (a.length + evW a))) := peR_eq (by rintro ⟨a0, a1⟩ ⟨b0, b1⟩ h; simp_all [evc_inj]) (a, l)
theorem pe_szEventS_ok : PE1 Try.prog 12 pe_szEventS := peR_ok (by rintro ⟨a, l⟩ hp; exact szEventS a l hp)
theorem toEventS_own (a : List Ev) (hp : a.length ≤ 1048576) : FnK Try.prog 14 0 [.fs 8 (a.map evc)] [] (fun z c => z = .slc 0 0 a.length ∧ c = [some (.row false 8 a.length (rowE evc evz a))]) := by
  refine FnK.ofE (cf := mkCf Try.prog te [(46, pe_toEvent)] 23 0 false (fun _ => false) (kp [(0, [0]), (1, [0, 3]), (2, [0, 3, 4]), (3, [0, 3, 4, 11]), (4, [0, 3, 4]), (5, [0, 3, 4]), (6, [2])]) [] []) (mkCf_ok te_ok (l := [(46, pe_toEvent)]) (⟨pe_toEvent_ok, trivial⟩) mixed_ok) Try.func14 rfl rfl rfl (by simp [mkCf]) (by simp [mkCf]) (rs := [.tmp 2]) rfl 100000 ?_
  simp only [↓XC, XV, entry, isStr, tdOf, szOf, zeroOf, TD.isStruct, okCell, cellsOf, SO.isMap, SO.sz, SO.el, SO.n, SO.ro, mkCf, quietOp, opClass, okLeaf, spl, cellV, isU8T, isSlS, fillS, fillP, repl, SO.put, SV.mapH, frzV, frzVL, frzOk, frzOkL, lendOk, SV.bit, bitL, SV.plain, plainL, isE, mapHL, strip, stripL, gok, gokL, forall_const, implies_true, reduceIte, Nat.reduceAdd, Nat.reduceLT, Nat.reduceEqDiff, Nat.reduceBEq, Nat.reduceLeDiff, reduceCtorEq, Nat.reduceSub, Nat.reduceMul, Int.reduceToNat, Int.reduceLT, Int.reduceLE, TES, pe_toEvent_eq, XRE]
  refine Chk.mk (by omega) fun _ => ?_
  refine VLoops.of (ι := {i : Nat // i ≤ a.length}) (fun x => ⟨[(0, .fs 8 (a.map evc)), (3, .slc 0 0 a.length), (4, .i .i64 (x.1 : Nat))], [some (.row false 8 a.length (rowE evc evz (a.take x.1)))]⟩) (fun x => a.length - x.1) ⟨0, Nat.zero_le _⟩ (by simp only [List.take_zero]; exact (Ent.ren1 [0] (by decide) (by simp only [entCtx, at_cons_zero, at_cons_succ, and_true, true_and]; exact soLe_row fun j hj => rfl) (by simp [entEnv, Vg.look, SV.mapH, muL]))) ?_
  rintro ⟨i, hi⟩
  simp only [↓XC, XV, entry, isStr, tdOf, szOf, zeroOf, TD.isStruct, okCell, cellsOf, SO.isMap, SO.sz, SO.el, SO.n, SO.ro, mkCf, quietOp, opClass, okLeaf, spl, cellV, isU8T, isSlS, fillS, fillP, repl, SO.put, SV.mapH, frzV, frzVL, frzOk, frzOkL, lendOk, SV.bit, bitL, SV.plain, plainL, isE, mapHL, strip, stripL, gok, gokL, forall_const, implies_true, reduceIte, Nat.reduceAdd, Nat.reduceLT, Nat.reduceEqDiff, Nat.reduceBEq, Nat.reduceLeDiff, reduceCtorEq, Nat.reduceSub, Nat.reduceMul, Int.reduceToNat, Int.reduceLT, Int.reduceLE, TES, pe_toEvent_eq, XRE]
  refine ⟨fun h => Chk.mk (by omega) fun _ => Chk.mk (by omega) fun _ => Chk.mk (by omega) fun _ => Chk.mk (by simp only [inR]; omega) fun _ => ⟨⟨i + 1, by omega⟩, by simp only; omega, ?_⟩, fun h => ?_⟩
  · simp only [Int.natCast_add, Int.natCast_one]
    refine (Ent.ren1 [0] (by decide) (by simp only [entCtx, at_cons_zero, at_cons_succ, and_true, true_and]; exact soLe_fill (fun _ => rfl) (by omega) fun j hj => rfl) (by simp [entEnv, Vg.look, SV.mapH, muL]))
  · have hia : i = a.length := by omega
    subst hia
    rw [List.take_length]
    exact ⟨[0], by decide, by simp only [entCtx, at_cons_zero, at_cons_succ, and_true, true_and]; exact soLe_same fun _ => rfl, by simp only [↓XC, XV, entry, isStr, tdOf, szOf, zeroOf, TD.isStruct, okCell, cellsOf, SO.isMap, SO.sz, SO.el, SO.n, SO.ro, mkCf, quietOp, opClass, okLeaf, spl, cellV, isU8T, isSlS, fillS, fillP, repl, SO.put, SV.mapH, frzV, frzVL, frzOk, frzOkL, lendOk, SV.bit, bitL, SV.plain, plainL, isE, mapHL, strip, stripL, gok, gokL, forall_const, implies_true, reduceIte, Nat.reduceAdd, Nat.reduceLT, Nat.reduceEqDiff, Nat.reduceBEq, Nat.reduceLeDiff, reduceCtorEq, Nat.reduceSub, Nat.reduceMul, Int.reduceToNat, Int.reduceLT, Int.reduceLE]; try simp [muL, SV.mapH, mapHL], by simp [newRw, SO.ro], by simp⟩
theorem toEventS (a : List Ev) (hp : a.length ≤ 1048576) : PF Try.prog 14 [.fs 8 (a.map evc)] (.fs 8 (a.map evc)) := PF.ofOwn (toEventS_own a hp) rfl rfl (by simp only [frzOk, frzOkL, frzV, frzVL, at_cons_zero, and_true]; exact ⟨⟨by omega, fun j hj => ⟨rfl, rfl⟩⟩, by rw [rowE_list rfl]⟩)
noncomputable def pe_toEventS : PE := peR (fun (a : List Ev) => [.fs 8 (a.map evc)]) (fun (a : List Ev) => a.length ≤ 1048576) (fun (a : List Ev) => .fs 8 (a.map evc))
theorem pe_toEventS_eq {a : List Ev} : pe_toEventS [.fs 8 (a.map evc)] = some (a.length ≤ 1048576, .fs 8 (a.map evc)) := peR_eq (by rintro a b h; simp_all [evc_inj]) a
theorem pe_toEventS_ok : PE1 Try.prog 14 pe_toEventS := peR_ok (by rintro a hp; exact toEventS a hp)
theorem eqEventS (a b : List Ev) (hp : a.length ≤ 1048576) : PF Try.prog 16 [.fs 8 (a.map evc), .fs 8 (b.map evc)] (.b (decide (a = b))) := by
  refine ⟨rfl, rfl, FnK.of (cf := mkCf Try.prog te [(50, pe_eqEvent)] 27 0 false (fun _ => false) (kp [(0, [0, 1]), (1, [0, 1, 10]), (2, [4]), (3, [0, 1, 5]), (4, [0, 1, 5, 14]), (5, [0, 1, 5]), (6, [0, 1, 5, 26]), (7, [4]), (8, [4])]) [] [(6, [], [], .q1 0 (.q1 1 (.q1 2 (.q1 4 (.q1 5 (.q1 6 (.q0 3 [3] (.q0 7 [7] (.alt 8 (.q1 9 (.fin)) (.fin))))))))))]) (mkCf_ok te_ok (l := [(50, pe_eqEvent)]) (⟨pe_eqEvent_ok, trivial⟩) mixed_ok) Try.func16 rfl rfl rfl (by simp [mkCf]) (by simp [mkCf]) (rs := [.tmp 4]) rfl 100000 ?_⟩
  simp only [↓XC, XV, entry, isStr, tdOf, szOf, zeroOf, TD.isStruct, okCell, cellsOf, SO.isMap, SO.sz, SO.el, SO.n, SO.ro, mkCf, quietOp, opClass, okLeaf, spl, cellV, isU8T, isSlS, fillS, fillP, repl, SO.put, SV.mapH, frzV, frzVL, frzOk, frzOkL, lendOk, SV.bit, bitL, SV.plain, plainL, isE, mapHL, strip, stripL, gok, gokL, forall_const, implies_true, reduceIte, Nat.reduceAdd, Nat.reduceLT, Nat.reduceEqDiff, Nat.reduceBEq, Nat.reduceLeDiff, reduceCtorEq, Nat.reduceSub, Nat.reduceMul, Int.reduceToNat, Int.reduceLT, Int.reduceLE, TES, pe_eqEvent_eq, XRE]
  refine ⟨fun h => ?_, fun h => ?_⟩
  · have : a ≠ b := by intro e; subst e; simp at h
    simp [this]
  have hlen : a.length = b.length := by simp at h; omega
  refine VLoops.of (ι := {i : Nat // i ≤ a.length ∧ ∀ j, j < i → a.getD j evz = b.getD j evz}) (fun x => ⟨[(0, .fs 8 (a.map evc)), (1, .fs 8 (b.map evc)), (5, .i .i64 (x.1 : Nat))], []⟩) (fun x => a.length - x.1) ⟨0, Nat.zero_le _, fun j hj => absurd hj (Nat.not_lt_zero _)⟩ (Ent.refl _ _) ?_
  rintro ⟨i, hi, hj⟩
  simp only [↓XC, XV, entry, isStr, tdOf, szOf, zeroOf, TD.isStruct, okCell, cellsOf, SO.isMap, SO.sz, SO.el, SO.n, SO.ro, mkCf, quietOp, opClass, okLeaf, spl, cellV, isU8T, isSlS, fillS, fillP, repl, SO.put, SV.mapH, frzV, frzVL, frzOk, frzOkL, lendOk, SV.bit, bitL, SV.plain, plainL, isE, mapHL, strip, stripL, gok, gokL, forall_const, implies_true, reduceIte, Nat.reduceAdd, Nat.reduceLT, Nat.reduceEqDiff, Nat.reduceBEq, Nat.reduceLeDiff, reduceCtorEq, Nat.reduceSub, Nat.reduceMul, Int.reduceToNat, Int.reduceLT, Int.reduceLE, TES, pe_eqEvent_eq, XRE]
  refine ⟨fun h => ⟨by decide +kernel, Chk.mk (by omega) fun _ => Chk.mk (by omega) fun _ => ⟨fun hne => ?_, fun hne => Chk.mk (by simp only [inR]; omega) fun _ => ⟨⟨i + 1, by omega, ?_⟩, by simp only; omega, (by first | exact Ent.refl _ _ | (simp only [Int.natCast_add, Int.natCast_one]; exact Ent.refl _ _))⟩⟩⟩, fun h => ?_⟩
  · have : a ≠ b := by intro e; subst e; simp at hne
    simp [this]
  · intro j hjj
    rcases Nat.lt_or_ge j i with h1 | h1
    · exact hj j h1
    · have : j = i := by omega
      subst this
      simpa using hne
  · have : a = b := eq_of_getD evz hlen fun j h1 => hj j (by omega)
    simp [this]
noncomputable def pe_eqEventS : PE := peR (fun (x : List Ev × List Ev) => match x with | (a, b) => [.fs 8 (a.map evc), .fs 8 (b.map evc)]) (fun (x : List Ev × List Ev) => match x with | (a, b) => a.length ≤ 1048576) (fun (x : List Ev × List Ev) => match x with | (a, b) => .b (decide (a = b)))
theorem pe_eqEventS_eq {a b : List Ev} : pe_eqEventS [.fs 8 (a.map evc), .fs 8 (b.map evc)] = some (a.length ≤ 1048576, .b (decide (a = b))) := peR_eq (by rintro ⟨a0, a1⟩ ⟨b0, b1⟩ h; simp_all [evc_inj]) (a, b)
theorem pe_eqEventS_ok : PE1 Try.prog 16 pe_eqEventS := peR_ok (by rintro ⟨a, b⟩ hp; exact eqEventS a b hp)
end Go.T13
