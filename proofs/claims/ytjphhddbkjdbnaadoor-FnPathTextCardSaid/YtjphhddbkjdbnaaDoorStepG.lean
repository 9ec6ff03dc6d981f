/- Own text: part StepG. -/
import Derived.Test.YtjphhddbkjdbnaaDoorTypes2
import Derived.Test.YtjphhddbkjdbnaaDoorTextA
import Derived.Test.YtjphhddbkjdbnaaDoorMarkA
import Derived.Test.YtjphhddbkjdbnaaDoorSegA
import Derived.Test.YtjphhddbkjdbnaaDoorShelf
import Derived.Test.YtjphhddbkjdbnaaDoorStepA
import Derived.Test.YtjphhddbkjdbnaaDoorStepC
import Derived.Test.YtjphhddbkjdbnaaDoorBaseE
import Derived.Test.YtjphhddbkjdbnaaDoorBaseF
set_option linter.unusedVariables false
set_option linter.unusedSimpArgs false
namespace Go.T96
set_option linter.unusedSectionVars false
variable [Go.Vg.Glob] [Go.Vg.GlobInt 0]
open Go.Proofs Go.Vg Go.RowKit Go.TT Go.Pl Go.T8 Go.T44 Go.T52 Go.TSh Go.T90 Go.T92
set_option linter.unusedVariables false
set_option linter.unusedSimpArgs false
set_option maxRecDepth 10000
set_option maxHeartbeats 4000000
theorem TextNum_i (s : Bs) (hp : s.length ≤ 1048576) : PF Tryd.prog 42 [.s s] (.tup [.i .i64 (tnW s).1, .b (tnW s).2]) := by
  refine ⟨rfl, rfl, FnK.of (cf := mkCf Tryd.prog te [(31, pe_within), (34, pe_NumText_i)] 39 0 false (fun _ => false) (kp [(0, [0]), (1, [0, 9]), (2, [2, 3]), (3, [0, 4]), (4, [0, 4, 11, 12]), (5, [0, 4, 11, 12, 13]), (6, [0, 4, 5, 11, 12]), (7, [0, 4, 5, 11, 12, 24]), (8, [2, 3]), (9, [0, 4, 11, 12]), (10, [0, 4, 11, 12]), (11, [4, 37]), (12, [2, 3]), (13, [2, 3])]) [] []) (mkCf_ok te_ok (l := [(31, pe_within), (34, pe_NumText_i)]) (⟨pe_within_ok, pe_NumText_i_ok, trivial⟩) mixed_ok) Tryd.func42 rfl rfl rfl (by simp [mkCf]) (by simp [mkCf]) (rs := [.tmp 2, .tmp 3]) rfl 100000 ?_⟩
  simp only [↓XC, XV, entry, isStr, tdOf, szOf, zeroOf, TD.isStruct, okCell, cellsOf, SO.isMap, SO.sz, SO.el, SO.n, SO.ro, mkCf, quietOp, opClass, okLeaf, spl, cellV, isU8T, isSlS, fillS, fillP, repl, SO.put, SV.mapH, frzV, frzVL, frzOk, frzOkL, lendOk, SV.bit, bitL, SV.plain, plainL, isE, mapHL, strip, stripL, gok, gokL, forall_const, implies_true, reduceIte, Nat.reduceAdd, Nat.reduceLT, Nat.reduceEqDiff, Nat.reduceBEq, Nat.reduceLeDiff, reduceCtorEq, Nat.reduceSub, Nat.reduceMul, Int.reduceToNat, Int.reduceLT, Int.reduceLE, TES, pe_within_eq, pe_NumText_i_eq]
  refine ⟨fun h => ?_, fun h => ?_⟩
  · have : tnW s = (0, false) := by
      unfold tnW
      rw [if_neg]
      rintro ⟨h1, h2, _⟩
      simp at h
      omega
    rw [this]
  have hL : 1 ≤ s.length ∧ s.length ≤ 10 := by simp at h; omega
  refine VLoops.of (ι := {i : Nat // i ≤ s.length ∧ ∀ j, j < i → isDg (s.getD j 0) = true}) (fun x => ⟨[(0, .s s), (4, .i .i64 (valD (s.take x.1) 0)), (11, .i .i64 (s.length : Nat)), (12, .i .i64 (x.1 : Nat))], []⟩) (fun x => s.length - x.1) ⟨0, Nat.zero_le _, fun j hj => absurd hj (Nat.not_lt_zero _)⟩ (Ent.refl _ _) ?_
  rintro ⟨i, hi, hj⟩
  simp only [↓XC, XV, entry, isStr, tdOf, szOf, zeroOf, TD.isStruct, okCell, cellsOf, SO.isMap, SO.sz, SO.el, SO.n, SO.ro, mkCf, quietOp, opClass, okLeaf, spl, cellV, isU8T, isSlS, fillS, fillP, repl, SO.put, SV.mapH, frzV, frzVL, frzOk, frzOkL, lendOk, SV.bit, bitL, SV.plain, plainL, isE, mapHL, strip, stripL, gok, gokL, forall_const, implies_true, reduceIte, Nat.reduceAdd, Nat.reduceLT, Nat.reduceEqDiff, Nat.reduceBEq, Nat.reduceLeDiff, reduceCtorEq, Nat.reduceSub, Nat.reduceMul, Int.reduceToNat, Int.reduceLT, Int.reduceLE, TES, pe_NumText_i_eq]
  have hdg : ∀ c ∈ s.take i, isD c := fun c hc => by
    obtain ⟨j, hjl, rfl⟩ := List.getElem_of_mem hc
    rw [List.length_take] at hjl
    have := hj j (by omega)
    rw [List.getD_eq_getElem?_getD, List.getElem?_eq_getElem (by omega)] at this
    rw [List.getElem_take]
    exact (isDg_isD _).1 this
  have hb := valD_bound hdg (by rw [List.length_take]; omega)
  have hD : ∀ c : UInt8, (decide ((c.toNat : Int) < 48) || decide ((c.toNat : Int) > 57)) = !isDg c := fun c => by
    unfold isDg
    rw [Bool.eq_iff_iff]
    simp only [Bool.or_eq_true, decide_eq_true_eq, Bool.not_eq_true', decide_eq_false_iff_not]
    omega
  rw [hD]
  refine ⟨fun hl => Chk.mk (by omega) fun _ => Chk.mk (fun _ => by omega) fun _ => ⟨fun hc => ?_, fun hc => ?_⟩, fun hl => ?_⟩
  · have : tnW s = (0, false) := by
      unfold tnW
      rw [if_neg]
      rintro ⟨_, _, h3, _⟩
      rw [List.all_eq_true] at h3
      have := h3 _ (getD_mem (z := 0) (by omega : i < s.length))
      rw [this] at hc
      simp at hc
    rw [this]
  · have hc' : isDg (s.getD i 0) = true := by simpa using hc
    have hr : 48 ≤ (s.getD i 0).toNat ∧ (s.getD i 0).toNat ≤ 57 := by unfold isDg at hc'; exact of_decide_eq_true hc'
    have ev : valD (s.take (i + 1)) 0 = valD (s.take i) 0 * 10 + (((s.getD i 0).toNat : Int) - 48) := by rw [take_snoc 0 (by omega), valD_append]; rfl
    refine Chk.mk (by simp only [inR]; omega) fun _ => Chk.mk (by omega) fun _ => Chk.mk (by simp only [inR]; omega) fun _ => Chk.mk (by simp only [inR]; omega) fun _ => Chk.mk (by simp only [inR]; omega) fun _ => Chk.mk (by simp only [inR]; omega) fun _ => ⟨⟨i + 1, by omega, fun j hjj => ?_⟩, by simp only; omega, ?_⟩
    · rcases Nat.lt_or_ge j i with h1 | h1
      · exact hj j h1
      · have : j = i := by omega
        subst this
        exact hc'
    · rw [ev]
      try rw [Int.mul_comm 10]
      exact (by first | exact Ent.refl _ _ | (simp only [Int.natCast_add, Int.natCast_one]; exact Ent.refl _ _))
  · have hiE : i = s.length := by omega
    rw [hiE, List.take_length] at hb hdg ⊢
    have ha : (s.all isDg) = true := by rw [List.all_eq_true]; intro c hc; exact (isDg_isD c).2 (hdg c hc)
    have h1 : ¬ numW (valD s 0) = s → tnW s = (0, false) := fun h9 => by
      unfold tnW
      rw [if_neg]
      rintro ⟨_, _, _, h4⟩
      exact h9 h4
    have h2 : numW (valD s 0) = s → tnW s = (valD s 0, true) := fun h9 => by
      unfold tnW
      rw [if_pos ⟨hL.1, hL.2, ha, h9⟩]
    first
      | refine Chk.mk (by omega) fun _ => ⟨fun h9 => by rw [h1 (by simpa using h9)], fun h9 => by rw [h2 (by simpa using h9)]⟩
      | refine ⟨fun h9 => by rw [h1 (by simpa using h9)], fun h9 => by rw [h2 (by simpa using h9)]⟩
noncomputable def pe_TextNum_i : PE := peR (fun (s : Bs) => [.s s]) (fun (s : Bs) => s.length ≤ 1048576) (fun (s : Bs) => .tup [.i .i64 (tnW s).1, .b (tnW s).2])
theorem pe_TextNum_i_eq {s : Bs} : pe_TextNum_i [.s s] = some (s.length ≤ 1048576, .tup [.i .i64 (tnW s).1, .b (tnW s).2]) := peR_eq (by rintro a b h; simp_all []) s
theorem pe_TextNum_i_ok : PE1 Tryd.prog 42 pe_TextNum_i := peR_ok (by rintro s hp; exact TextNum_i s hp)
end Go.T96
