/- Own text: part StepC. -/
import Derived.Test.YtjphhddbkjdbnaaDoorTypes2
import Derived.Test.YtjphhddbkjdbnaaDoorTextA
import Derived.Test.YtjphhddbkjdbnaaDoorMarkA
import Derived.Test.YtjphhddbkjdbnaaDoorSegA
import Derived.Test.YtjphhddbkjdbnaaDoorShelf
import Derived.Test.YtjphhddbkjdbnaaDoorBaseE
import Derived.Test.YtjphhddbkjdbnaaDoorBaseF
set_option linter.unusedVariables false
set_option linter.unusedSimpArgs false
namespace Go.T92
set_option linter.unusedSectionVars false
variable [Go.Vg.Glob] [Go.Vg.GlobInt 0]
open Go.Proofs Go.Vg Go.RowKit Go.TT Go.Pl Go.T8 Go.T44 Go.T52 Go.TSh
set_option linter.unusedVariables false
set_option linter.unusedSimpArgs false
set_option maxRecDepth 10000
set_option maxHeartbeats 4000000
noncomputable def pe_NumText_s_lt (bound : Nat) : PE := peR (fun (n : Int) => [.i .i64 n]) (fun (n : Int) => ((n ≤ 9223372036854775807) ∧ n.toNat < bound)) (fun (n : Int) => .s (numW n))
theorem pe_NumText_s_lt_eq {bound : Nat} {n : Int} : pe_NumText_s_lt bound [.i .i64 n] = some (((n ≤ 9223372036854775807) ∧ n.toNat < bound), .s (numW n)) := peR_eq (by rintro a b h; simp_all []) n
theorem NumText_s_aux : ∀ (bound : Nat) (n : Int), (n ≤ 9223372036854775807) → n.toNat < bound → PF Tryd.prog 19 [.i .i64 n] (.s (numW n)) := by
  intro bound
  induction bound with
  | zero => intro n _ h; exact absurd h (Nat.not_lt_zero _)
  | succ bound ih =>
  intro n hp hm
  have hself : PE1 Tryd.prog 19 (pe_NumText_s_lt bound) := peR_ok (by rintro x0 hx; exact ih x0 hx.1 hx.2)
  refine ⟨rfl, rfl, FnK.of (cf := mkCf Tryd.prog te [(19, pe_NumText_s_lt bound)] 26 0 false (fun _ => false) (kp [(0, [0]), (1, [0, 8]), (2, [2]), (3, [0, 10]), (4, [2]), (5, [2])]) [] [(5, [], [], .q1 0 (.q1 1 (.q1 3 (.q1 4 (.q1 5 (.alt 2 (.alt 6 (.alt 7 (.alt 8 (.q1 9 (.q1 10 (.fin))) (.fin)) (.fin)) (.fin)) (.alt 6 (.alt 2 (.alt 7 (.alt 8 (.q1 9 (.q1 10 (.fin))) (.fin)) (.fin)) (.alt 7 (.alt 2 (.alt 8 (.q1 9 (.q1 10 (.fin))) (.fin)) (.alt 8 (.alt 2 (.q1 9 (.q1 10 (.fin))) (.fin)) (.fin))) (.fin))) (.fin))))))))]) (mkCf_ok te_ok (l := [(19, pe_NumText_s_lt bound)]) (⟨hself, trivial⟩) mixed_ok) Tryd.func19 rfl rfl rfl (by simp [mkCf]) (by simp [mkCf]) (rs := [.tmp 2]) rfl 100000 ?_⟩
  simp only [↓XC, XV, entry, isStr, tdOf, szOf, zeroOf, TD.isStruct, okCell, cellsOf, SO.isMap, SO.sz, SO.el, SO.n, SO.ro, mkCf, quietOp, opClass, okLeaf, spl, cellV, isU8T, isSlS, fillS, fillP, repl, SO.put, SV.mapH, frzV, frzVL, frzOk, frzOkL, lendOk, SV.bit, bitL, SV.plain, plainL, isE, mapHL, strip, stripL, gok, gokL, forall_const, implies_true, reduceIte, Nat.reduceAdd, Nat.reduceLT, Nat.reduceEqDiff, Nat.reduceBEq, Nat.reduceLeDiff, reduceCtorEq, Nat.reduceSub, Nat.reduceMul, Int.reduceToNat, Int.reduceLT, Int.reduceLE, TES, pe_NumText_s_lt_eq]
  refine ⟨fun h => ?_, fun h => ?_⟩
  · have : numW n = [] := by unfold numW; rw [if_neg (by simp at h; omega)]
    rw [this]
  obtain ⟨m, rfl⟩ : ∃ m : Nat, n = m := ⟨n.toNat, by simp at h; omega⟩
  have hmx : m ≤ 4294967295 := by simp at h; omega
  have e1 : (m : Int).tmod 10 = ((m % 10 : Nat) : Int) := tmod_nat m 10
  have e2 : (m : Int).tdiv 10 = ((m / 10 : Nat) : Int) := tdiv_nat m 10
  have e0 : numW (m : Int) = dec m := by unfold numW; rw [if_pos (by omega)]; rfl
  have e3 : numW ((m / 10 : Nat) : Int) = dec (m / 10) := by unfold numW; rw [if_pos (by omega)]; rfl
  have hl := numW_len ((m / 10 : Nat) : Int)
  rw [e3] at hl
  simp only [e1, e2, e0, e3]
  have e4 : ((48 : Int) + ((m % 10 : Nat) : Int)).toNat = 48 + m % 10 := by omega
  have e5 : ((48 : Int) + (m : Int)).toNat = 48 + m := by omega
  have e6 : ¬ m < 10 → dec (m / 10) ++ [UInt8.ofNat (48 + m % 10)] = dec m := fun h9 => by rw [dec_eq m, if_neg h9]
  have e7 : m < 10 → dec m = [UInt8.ofNat (48 + m)] := fun h9 => by rw [dec_eq m, if_pos h9]
  simp only [e4, e5]
  refine ⟨fun h10 => ?_, fun h10 => ?_⟩
  · rw [e7 (by omega)]
    exact Chk.mk (by simp only [inR]; omega) fun _ => Chk.mk (by simp only [inR]; omega) fun _ => ⟨isU8_one, rfl⟩
  rw [e6 (by omega)]
  repeat' (first | with_reducible refine Chk.mk ?_ fun _ => ?_ | with_reducible refine And.intro ?_ ?_ | intro _)
  all_goals first
    | omega
    | (simp only [inR]; omega)
    | (with_reducible refine (?_ : schAll _ _ _ = true); decide +kernel)
    | exact isU8_one
    | (rename_i h9; exact isU8_one _ h9)
    | rfl
    | decide
theorem NumText_s (n : Int) (hp : n ≤ 9223372036854775807) : PF Tryd.prog 19 [.i .i64 n] (.s (numW n)) := NumText_s_aux (n.toNat + 1) n hp (Nat.lt_succ_self _)
noncomputable def pe_NumText_s : PE := peR (fun (n : Int) => [.i .i64 n]) (fun (n : Int) => n ≤ 9223372036854775807) (fun (n : Int) => .s (numW n))
theorem pe_NumText_s_eq {n : Int} : pe_NumText_s [.i .i64 n] = some (n ≤ 9223372036854775807, .s (numW n)) := peR_eq (by rintro a b h; simp_all []) n
theorem pe_NumText_s_ok : PE1 Tryd.prog 19 pe_NumText_s := peR_ok (by rintro n hp; exact NumText_s n hp)
theorem l17Word (s : Bs) (hp : s.length ≤ 1048576) : PF Tryd.prog 20 [.s s] (.b (bare s)) := by
  refine ⟨rfl, rfl, FnK.of (cf := mkCf Tryd.prog te [] 53 0 false (fun _ => false) (kp [(0, [0]), (1, [0, 3]), (2, [0, 3, 9]), (3, [0, 3]), (4, [0, 3, 4]), (5, [0, 3, 4, 5]), (6, [0, 3, 50]), (7, [2]), (8, [2])]) [] []) (mkCf_ok te_ok (l := []) (trivial) mixed_ok) Tryd.func20 rfl rfl rfl (by simp [mkCf]) (by simp [mkCf]) (rs := [.tmp 2]) rfl 100000 ?_⟩
  simp only [↓XC, XV, entry, isStr, tdOf, szOf, zeroOf, TD.isStruct, okCell, cellsOf, SO.isMap, SO.sz, SO.el, SO.n, SO.ro, mkCf, quietOp, opClass, okLeaf, spl, cellV, isU8T, isSlS, fillS, fillP, repl, SO.put, SV.mapH, frzV, frzVL, frzOk, frzOkL, lendOk, SV.bit, bitL, SV.plain, plainL, isE, mapHL, strip, stripL, gok, gokL, forall_const, implies_true, reduceIte, Nat.reduceAdd, Nat.reduceLT, Nat.reduceEqDiff, Nat.reduceBEq, Nat.reduceLeDiff, reduceCtorEq, Nat.reduceSub, Nat.reduceMul, Int.reduceToNat, Int.reduceLT, Int.reduceLE, TES]
  refine VLoops.of (ι := {i : Nat // i ≤ s.length ∧ (∀ j, j < i → (isWB (s.getD j 0) || isDg (s.getD j 0)) = true) ∧ (0 < i → isDg (s.getD 0 0) = false)}) (fun x => ⟨[(0, .s s), (3, .i .i64 (x.1 : Nat))], []⟩) (fun x => s.length - x.1) ⟨0, Nat.zero_le _, fun j hj => absurd hj (Nat.not_lt_zero _), fun h => absurd h (Nat.lt_irrefl _)⟩ (Ent.refl _ _) ?_
  rintro ⟨i, hi, hj, h0⟩
  simp only [↓XC, XV, entry, isStr, tdOf, szOf, zeroOf, TD.isStruct, okCell, cellsOf, SO.isMap, SO.sz, SO.el, SO.n, SO.ro, mkCf, quietOp, opClass, okLeaf, spl, cellV, isU8T, isSlS, fillS, fillP, repl, SO.put, SV.mapH, frzV, frzVL, frzOk, frzOkL, lendOk, SV.bit, bitL, SV.plain, plainL, isE, mapHL, strip, stripL, gok, gokL, forall_const, implies_true, reduceIte, Nat.reduceAdd, Nat.reduceLT, Nat.reduceEqDiff, Nat.reduceBEq, Nat.reduceLeDiff, reduceCtorEq, Nat.reduceSub, Nat.reduceMul, Int.reduceToNat, Int.reduceLT, Int.reduceLE, TES]
  have hW : ∀ c : UInt8, (decide ((c.toNat : Int) ≥ 97) && decide ((c.toNat : Int) ≤ 122) || decide ((c.toNat : Int) ≥ 65) && decide ((c.toNat : Int) ≤ 90) || decide ((c.toNat : Int) = 95) || decide ((c.toNat : Int) = 45)) = isWB c := fun c => by
    unfold isWB
    rw [Bool.eq_iff_iff]
    simp only [Bool.or_eq_true, Bool.and_eq_true, decide_eq_true_eq]
    omega
  have hD : ∀ c : UInt8, (decide ((c.toNat : Int) < 48) || decide ((c.toNat : Int) > 57)) = !isDg c := fun c => by
    unfold isDg
    rw [Bool.eq_iff_iff]
    simp only [Bool.or_eq_true, decide_eq_true_eq, Bool.not_eq_true', decide_eq_false_iff_not]
    omega
  rw [hW, hD]
  refine ⟨fun hl => Chk.mk (by omega) fun _ => ⟨fun hb => ?_, fun hb => Chk.mk (by simp only [inR]; omega) fun _ => ⟨⟨i + 1, by omega, fun j hjj => ?_, fun _ => ?_⟩, by simp only; omega, (by first | exact Ent.refl _ _ | (simp only [Int.natCast_add, Int.natCast_one]; exact Ent.refl _ _))⟩⟩, fun hl => ?_⟩
  · have : bare s = false := by
      unfold bare
      by_cases h9 : isDg (s.getD 0 0) = true
      · rw [h9, Bool.not_true, Bool.and_false, Bool.false_and]
      · have hc : (isWB (s.getD i 0) || isDg (s.getD i 0)) = false := by
          by_cases hi0 : i = 0
          · subst hi0
            cases h8 : isWB (s.getD 0 0) with
            | true => rw [h8] at hb; simp at hb
            | false => simpa using h9
          · cases h8 : isWB (s.getD i 0) with
            | true => rw [h8] at hb; simp at hb
            | false =>
              rw [h8] at hb
              have hi1 : decide ((i : Int) = 0) = false := decide_eq_false (by omega)
              rw [hi1] at hb
              simpa using hb
        have : (s.all fun c => isWB c || isDg c) = false := by
          rw [List.all_eq_false]
          exact ⟨_, getD_mem (z := 0) (by omega : i < s.length), by rw [hc]; simp⟩
        rw [this, Bool.and_false]
    rw [this]
  · rcases Nat.lt_or_ge j i with h1 | h1
    · exact hj j h1
    · have : j = i := by omega
      subst this
      cases h8 : isWB (s.getD j 0) with
      | true => rfl
      | false =>
        rw [h8] at hb
        cases h7 : isDg (s.getD j 0) with
        | true => rfl
        | false => rw [h7] at hb; simp at hb
  · by_cases hi0 : i = 0
    · subst hi0
      cases h7 : isDg (s.getD 0 0) with
      | false => rfl
      | true =>
        have h8 : isWB (s.getD 0 0) = false := by
          unfold isDg at h7
          unfold isWB
          have := of_decide_eq_true h7
          exact decide_eq_false (by omega)
        rw [h8] at hb
        simp at hb
    · exact h0 (by omega)
  · have hiE : i = s.length := by omega
    have ha : (s.all fun c => isWB c || isDg c) = true := by
      rw [List.all_eq_true]
      intro c hc
      obtain ⟨j, hjl, rfl⟩ := List.getElem_of_mem hc
      have := hj j (by omega)
      rwa [List.getD_eq_getElem?_getD, List.getElem?_eq_getElem hjl] at this
    unfold bare
    rw [ha, Bool.and_true]
    by_cases h9 : s = []
    · simp [h9]
    · have := List.length_pos_iff.2 h9
      rw [h0 (by omega)]
      simp [h9]
noncomputable def pe_l17Word : PE := peR (fun (s : Bs) => [.s s]) (fun (s : Bs) => s.length ≤ 1048576) (fun (s : Bs) => .b (bare s))
theorem pe_l17Word_eq {s : Bs} : pe_l17Word [.s s] = some (s.length ≤ 1048576, .b (bare s)) := peR_eq (by rintro a b h; simp_all []) s
theorem pe_l17Word_ok : PE1 Tryd.prog 20 pe_l17Word := peR_ok (by rintro s hp; exact l17Word s hp)
theorem l17Quote (s : Bs) (hp : s.length ≤ 1048576) : PF Tryd.prog 21 [.s s] (.s (39 :: (dbl s ++ [39]))) := by
  refine ⟨rfl, rfl, FnK.of (cf := mkCf Tryd.prog te [] 29 0 false (fun _ => false) (kp [(0, [0]), (1, [0, 3]), (2, [0, 3, 4]), (3, [0, 3, 4, 9]), (4, [0, 3, 4]), (5, [0, 3, 4, 15]), (6, [0, 3, 4]), (7, [0, 3, 4]), (8, [2])]) [] []) (mkCf_ok te_ok (l := []) (trivial) mixed_ok) Tryd.func21 rfl rfl rfl (by simp [mkCf]) (by simp [mkCf]) (rs := [.tmp 2]) rfl 100000 ?_⟩
  simp only [↓XC, XV, entry, isStr, tdOf, szOf, zeroOf, TD.isStruct, okCell, cellsOf, SO.isMap, SO.sz, SO.el, SO.n, SO.ro, mkCf, quietOp, opClass, okLeaf, spl, cellV, isU8T, isSlS, fillS, fillP, repl, SO.put, SV.mapH, frzV, frzVL, frzOk, frzOkL, lendOk, SV.bit, bitL, SV.plain, plainL, isE, mapHL, strip, stripL, gok, gokL, forall_const, implies_true, reduceIte, Nat.reduceAdd, Nat.reduceLT, Nat.reduceEqDiff, Nat.reduceBEq, Nat.reduceLeDiff, reduceCtorEq, Nat.reduceSub, Nat.reduceMul, Int.reduceToNat, Int.reduceLT, Int.reduceLE, TES, XR]
  refine VLoops.of (ι := {i : Nat // i ≤ s.length}) (fun x => ⟨[(0, .s s), (3, .slc 0 0 ((dbl (s.take x.1)).length + 1)), (4, .i .i64 (x.1 : Nat))], [some (.row false 1 ((dbl (s.take x.1)).length + 1) (rowE bytc 0 (39 :: dbl (s.take x.1))))]⟩) (fun x => s.length - x.1) ⟨0, Nat.zero_le _⟩ (Ent.ren1 [0] (by decide) (by simp only [entCtx, at_cons_zero, at_cons_succ, and_true, true_and]; exact soLe_row fun j hj => by (obtain rfl : j = 0 := by (simp [dbl] at hj; omega)); rfl) (by simp [entEnv, Vg.look, SV.mapH, muL, dbl])) ?_
  rintro ⟨i, hi⟩
  simp only [↓XC, XV, entry, isStr, tdOf, szOf, zeroOf, TD.isStruct, okCell, cellsOf, SO.isMap, SO.sz, SO.el, SO.n, SO.ro, mkCf, quietOp, opClass, okLeaf, spl, cellV, isU8T, isSlS, fillS, fillP, repl, SO.put, SV.mapH, frzV, frzVL, frzOk, frzOkL, lendOk, SV.bit, bitL, SV.plain, plainL, isE, mapHL, strip, stripL, gok, gokL, forall_const, implies_true, reduceIte, Nat.reduceAdd, Nat.reduceLT, Nat.reduceEqDiff, Nat.reduceBEq, Nat.reduceLeDiff, reduceCtorEq, Nat.reduceSub, Nat.reduceMul, Int.reduceToNat, Int.reduceLT, Int.reduceLE, TES, XR]
  obtain ⟨T, hT⟩ : ∃ T, T = dbl (s.take i) := ⟨_, rfl⟩
  rw [← hT]
  have hTl : T.length ≤ 2 * 1048576 := by
    have := dbl_length (s.take i)
    rw [← hT, List.length_take] at this
    omega
  have f1 : ∀ (b : UInt8) (j : Nat), j < T.length + 1 + 1 → catF (T.length + 1) (fun j => [.i .u8 (((39 :: T).getD j 0).toNat : Nat)]) (fun j => litEl [.i .u8 (b.toNat : Nat)] 1 j) j = rowE bytc 0 ((39 :: T) ++ [b]) j := fun b => cat_push (39 :: T) b (n := T.length + 1) rfl (fun j _ => rfl)
  have f2 : ∀ (b : UInt8) (j : Nat), j < T.length + 1 + 1 + 1 → catF (T.length + 1 + 1) (fun j => catF (T.length + 1) (fun j => [.i .u8 (((39 :: T).getD j 0).toNat : Nat)]) (fun j => litEl [.i .u8 39] 1 j) j) (fun j => litEl [.i .u8 (b.toNat : Nat)] 1 j) j = rowE bytc 0 ((39 :: T) ++ [39] ++ [b]) j := fun b => cat_push ((39 :: T) ++ [39]) b (n := T.length + 1 + 1) (by simp) (fun j hj => f1 39 j hj)
  refine ⟨fun hl => Chk.mk (by omega) fun _ => ⟨fun hc => ⟨litEl_ok rfl rfl, Chk.mk (by omega) fun _ => Chk.mk (by omega) fun _ => ⟨litEl_ok rfl rfl, Chk.mk (by omega) fun _ => Chk.mk (by simp only [inR]; omega) fun _ => ⟨⟨i + 1, by omega⟩, by simp only; omega, ?_⟩⟩⟩, fun hc => Chk.mk (by omega) fun _ => ⟨litEl_ok rfl rfl, Chk.mk (by omega) fun _ => Chk.mk (by simp only [inR]; omega) fun _ => ⟨⟨i + 1, by omega⟩, by simp only; omega, ?_⟩⟩⟩, fun hl => ?_⟩
  · have hc' : s.getD i 0 = 39 := UInt8.toNat_inj.1 (by have h9 : (((s.getD i 0).toNat : Nat) : Int) = 39 := hc; show (s.getD i 0).toNat = 39; omega)
    have e : dbl (s.take (i + 1)) = T ++ [39] ++ [s.getD i 0] := by rw [take_snoc 0 (by omega), dbl_append, ← hT, hc']; simp [dbl]
    have el : (dbl (s.take (i + 1))).length = T.length + 1 + 1 := by rw [e]; simp
    simp only [el]
    exact (Ent.ren1 [4] (by decide) (by simp only [entCtx, at_cons_zero, at_cons_succ, and_true, true_and]; exact soLe_row fun j hj => (by rw [e, show (39 : UInt8) :: (T ++ [39] ++ [s.getD i 0]) = (39 :: T) ++ [39] ++ [s.getD i 0] from rfl]; exact (f2 _ j (by omega)).symm)) (by simp [entEnv, Vg.look, SV.mapH, muL, Int.natCast_add, Int.natCast_one]))
  · have hc' : ¬ s.getD i 0 = 39 := fun h => hc (by rw [h]; rfl)
    have e : dbl (s.take (i + 1)) = T ++ [s.getD i 0] := by rw [take_snoc 0 (by omega), dbl_append, ← hT]; simp only [dbl]; rw [if_neg hc']
    have el : (dbl (s.take (i + 1))).length = T.length + 1 := by rw [e]; simp
    simp only [el]
    exact (Ent.ren1 [2] (by decide) (by simp only [entCtx, at_cons_zero, at_cons_succ, and_true, true_and]; exact soLe_row fun j hj => (by rw [e, show (39 : UInt8) :: (T ++ [s.getD i 0]) = (39 :: T) ++ [s.getD i 0] from rfl]; exact (f1 _ j (by omega)).symm)) (by simp [entEnv, Vg.look, SV.mapH, muL, Int.natCast_add, Int.natCast_one]))
  · have hiE : i = s.length := by omega
    rw [hiE, List.take_length] at hT
    refine ⟨litEl_ok rfl rfl, Chk.mk (by omega) fun _ => ⟨fun j hj => ?_, Chk.mk (Nat.le_refl _) fun _ => ?_⟩⟩
    · rw [show (SV.i IntKind.u8 39) = SV.i IntKind.u8 ((39 : UInt8).toNat : Nat) from rfl, f1 39 j hj]
      rfl
    · rw [show (SV.i IntKind.u8 39) = SV.i IntKind.u8 ((39 : UInt8).toNat : Nat) from rfl, rowBytes_ext (f1 39)]
      have := rowBytes_bytc ((39 :: T) ++ [39])
      have e9 : ((39 :: T) ++ [39] : List UInt8).length = T.length + 1 + 1 := by simp
      rw [e9] at this
      rw [this, hT]
      rfl
noncomputable def pe_l17Quote : PE := peR (fun (s : Bs) => [.s s]) (fun (s : Bs) => s.length ≤ 1048576) (fun (s : Bs) => .s (39 :: (dbl s ++ [39])))
theorem pe_l17Quote_eq {s : Bs} : pe_l17Quote [.s s] = some (s.length ≤ 1048576, .s (39 :: (dbl s ++ [39]))) := peR_eq (by rintro a b h; simp_all []) s
theorem pe_l17Quote_ok : PE1 Tryd.prog 21 pe_l17Quote := peR_ok (by rintro s hp; exact l17Quote s hp)
end Go.T92
