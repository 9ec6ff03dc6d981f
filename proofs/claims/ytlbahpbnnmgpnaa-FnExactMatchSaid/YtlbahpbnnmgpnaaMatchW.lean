/- Own text: part MatchW. -/
import Derived.Test.YtlbahpbnnmgpnaaTypes2
import Derived.Test.YtlbahpbnnmgpnaaTextA
import Derived.Test.YtlbahpbnnmgpnaaVgEv
import Derived.Test.YtlbahpbnnmgpnaaVgSg
import Derived.Test.YtlbahpbnnmgpnaaPlQ
import Derived.Test.YtlbahpbnnmgpnaaSegA
import Derived.Test.YtlbahpbnnmgpnaaPlN
namespace Go.T28
open Go.Proofs Go.Vg Go.RowKit Go.TT Go.Pl Go.T8 Go.T27
set_option linter.unusedVariables false
set_option linter.unusedSimpArgs false
set_option maxRecDepth 10000
set_option maxHeartbeats 4000000
theorem segsOk (l : List Sg) (hp : l.length ≤ 1048576) : PF Try.prog 62 [.fs 3 (l.map segc)] (.b (sgsOk l)) := by
  refine ⟨rfl, rfl, FnK.of (cf := mkCf Try.prog te [(18, pe_SegOk_i)] 15 0 false (fun _ => false) (kp [(0, [0]), (1, [5, 6, 7]), (2, [5, 6, 7, 8]), (3, [4, 5, 6, 7]), (4, [5, 6, 7, 13]), (5, [2]), (6, [5, 6, 7]), (7, [2])]) [] []) (mkCf_ok te_ok (l := [(18, pe_SegOk_i)]) (⟨pe_SegOk_i_ok, trivial⟩) mixed_ok) Try.func62 rfl rfl rfl (by simp [mkCf]) (by simp [mkCf]) (rs := [.tmp 2]) rfl 100000 ?_⟩
  simp only [↓XC, XV, entry, isStr, tdOf, szOf, zeroOf, TD.isStruct, okCell, cellsOf, SO.isMap, SO.sz, SO.el, SO.n, SO.ro, mkCf, quietOp, opClass, okLeaf, spl, cellV, isU8T, isSlS, fillS, fillP, repl, SO.put, SV.mapH, frzV, frzVL, frzOk, frzOkL, lendOk, SV.bit, bitL, SV.plain, plainL, isE, mapHL, strip, stripL, gok, gokL, forall_const, implies_true, reduceIte, Nat.reduceAdd, Nat.reduceLT, Nat.reduceEqDiff, Nat.reduceBEq, Nat.reduceLeDiff, reduceCtorEq, Nat.reduceSub, Nat.reduceMul, Int.reduceToNat, Int.reduceLT, Int.reduceLE, TES, pe_SegOk_i_eq, XRS]
  refine VLoops.of (ι := {i : Nat // i ≤ l.length ∧ (l.take i).all sgOk = true}) (fun x => ⟨[(5, .fs 3 (l.map segc)), (6, .i .i64 (l.length : Nat)), (7, .i .i64 (x.1 : Nat))], []⟩) (fun x => l.length - x.1) ⟨0, Nat.zero_le _, by simp⟩ (Ent.refl _ _) ?_
  rintro ⟨i, hi, hj⟩
  simp only [↓XC, XV, entry, isStr, tdOf, szOf, zeroOf, TD.isStruct, okCell, cellsOf, SO.isMap, SO.sz, SO.el, SO.n, SO.ro, mkCf, quietOp, opClass, okLeaf, spl, cellV, isU8T, isSlS, fillS, fillP, repl, SO.put, SV.mapH, frzV, frzVL, frzOk, frzOkL, lendOk, SV.bit, bitL, SV.plain, plainL, isE, mapHL, strip, stripL, gok, gokL, forall_const, implies_true, reduceIte, Nat.reduceAdd, Nat.reduceLT, Nat.reduceEqDiff, Nat.reduceBEq, Nat.reduceLeDiff, reduceCtorEq, Nat.reduceSub, Nat.reduceMul, Int.reduceToNat, Int.reduceLT, Int.reduceLE, TES, pe_SegOk_i_eq, XRS]
  refine ⟨fun hl => Chk.mk (by omega) fun _ => ⟨fun h => ?_, fun h => Chk.mk (by simp only [inR]; omega) fun _ => ⟨⟨i + 1, by omega, ?_⟩, by simp only; omega, (by (try simp only [Int.natCast_add, Int.natCast_one]); exact Ent.nil (by simp [entEnv, Vg.look, SV.mapH]))⟩⟩, fun hl => ?_⟩
  · have : sgsOk l = false := by
      unfold sgsOk
      rw [List.all_eq_false]
      exact ⟨_, getD_mem (z := sgz) (by omega : i < l.length), by simpa using h⟩
    rw [this]
  · rw [take_snoc sgz (by omega), List.all_append, hj]
    simpa using h
  · rw [show i = l.length by omega, List.take_length] at hj
    rw [sgsOk, hj]
noncomputable def pe_segsOk : PE := peR (fun (l : List Sg) => [.fs 3 (l.map segc)]) (fun (l : List Sg) => l.length ≤ 1048576) (fun (l : List Sg) => .b (sgsOk l))
theorem pe_segsOk_eq {l : List Sg} : pe_segsOk [.fs 3 (l.map segc)] = some (l.length ≤ 1048576, .b (sgsOk l)) := peR_eq (by rintro a b h; simp_all [segc_inj]) l
theorem pe_segsOk_ok : PE1 Try.prog 62 pe_segsOk := peR_ok (by rintro l hp; exact segsOk l hp)
theorem Match_i (p l : List Sg) (hp : p.length ≤ 1048576 ∧ l.length ≤ 1048576) : PF Try.prog 24 [.fs 3 (p.map segc), .fs 3 (l.map segc)] (.b (sgsOk p && sgsOk l && mtc p l)) := by
  refine ⟨rfl, rfl, FnK.of (cf := mkCf Try.prog te [(62, pe_segsOk)] 94 0 false (fun _ => false) (kp [(0, [0, 1]), (1, [0, 1, 17]), (2, [4]), (3, [0, 1, 5]), (4, [0, 1, 5]), (5, [1, 5, 24, 25, 26]), (6, [1, 5, 24, 25, 26, 27]), (7, [1, 5, 7, 24, 25, 26]), (8, [1, 5, 7, 8, 24, 25, 26]), (9, [1, 5, 7, 8, 24, 25, 26, 35, 36]), (10, [1, 5, 7, 8, 24, 25, 26, 35, 36, 37]), (11, [1, 5, 7, 8, 9, 24, 25, 26, 35, 36]), (12, [1, 5, 7, 8, 9, 24, 25, 26, 35, 36, 39]), (13, [1, 5, 7, 8, 24, 25, 26, 35, 36]), (14, [1, 5, 7, 8, 9, 24, 25, 26, 35, 36, 61]), (15, [1, 5, 7, 8, 24, 25, 26, 35, 36]), (16, [1, 5, 7, 8, 24, 25, 26, 35, 36]), (17, [1, 5, 24, 25, 26]), (18, [1, 5, 24, 25, 26]), (19, [4])]) [] [(15, [15], [2], .q1 0 (.q1 1 (.q1 2 (.q0 3 [3, 4, 5, 6, 7, 8, 9, 10, 11, 12, 13, 14, 15] (.q1 4 (.q1 5 (.q1 7 (.q1 8 (.q1 9 (.q0 10 [10, 11, 12, 13, 14, 15] (.q0 6 [6, 12, 13, 14, 15] (.q0 11 [11, 12, 13, 14, 15] (.q1 12 (.q1 13 (.q0 14 [14, 15] (.sw (.alt 15 (.fin) (.fin))))))))))))))))))]) (mkCf_ok te_ok (l := [(62, pe_segsOk)]) (⟨pe_segsOk_ok, trivial⟩) mixed_ok) Try.func24 rfl rfl rfl (by simp [mkCf]) (by simp [mkCf]) (rs := [.tmp 4]) rfl 100000 ?_⟩
  simp only [↓XC, XV, entry, isStr, tdOf, szOf, zeroOf, TD.isStruct, okCell, cellsOf, SO.isMap, SO.sz, SO.el, SO.n, SO.ro, mkCf, quietOp, opClass, okLeaf, spl, cellV, isU8T, isSlS, fillS, fillP, repl, SO.put, SV.mapH, frzV, frzVL, frzOk, frzOkL, lendOk, SV.bit, bitL, SV.plain, plainL, isE, mapHL, strip, stripL, gok, gokL, forall_const, implies_true, reduceIte, Nat.reduceAdd, Nat.reduceLT, Nat.reduceEqDiff, Nat.reduceBEq, Nat.reduceLeDiff, reduceCtorEq, Nat.reduceSub, Nat.reduceMul, Int.reduceToNat, Int.reduceLT, Int.reduceLE, TES, pe_segsOk_eq, XRS, XR, eqSg]
  simp only [show ((l.length : Int) + 1).toNat = l.length + 1 by omega]
  refine Chk.mk (by omega) fun _ => Chk.mk (fun h => ⟨h, by omega⟩) fun _ => ⟨fun h => ?_, fun h => Chk.mk (by simp only [inR]; omega) fun _ => Chk.mk (by omega) fun _ => Chk.mk (by omega) fun _ => Chk.mk (by omega) fun _ => ?_⟩
  · cases h1 : sgsOk p <;> simp_all
  have hok : (sgsOk p && sgsOk l) = true := by cases h1 : sgsOk p <;> simp_all
  rw [hok, Bool.true_and]
  refine VLoops.of (ι := {x : Nat × (Nat → Bool) // x.1 ≤ p.length ∧ fitF l (p.drop x.1) x.2 l.length = mtc p l}) (fun x => ⟨[(1, .fs 3 (l.map segc)), (5, .slc 0 0 (l.length + 1)), (24, .fs 3 (p.map segc)), (25, .i .i64 (p.length : Nat)), (26, .i .i64 (x.1.1 : Nat))], [some (.row false 1 (l.length + 1) (rowE booc false (mkB (l.length + 1) x.1.2)))]⟩) (fun x => p.length - x.1.1) ⟨(0, zrF), Nat.zero_le _, by rw [List.drop_zero]; exact fit_mtc p l⟩ (Ent.ren1 [0] (by decide) (by simp only [entCtx, at_cons_zero, at_cons_succ, and_true, true_and]; exact soLe_row fun j hj => by simp only [rowE, mkB_get hj, zrF, booc]; split <;> simp_all [SV.mapH, mapHL]) (by simp [entEnv, Vg.look, SV.mapH, muL])) ?_
  rintro ⟨⟨k, f⟩, hk, hf⟩
  simp only [↓XC, XV, entry, isStr, tdOf, szOf, zeroOf, TD.isStruct, okCell, cellsOf, SO.isMap, SO.sz, SO.el, SO.n, SO.ro, mkCf, quietOp, opClass, okLeaf, spl, cellV, isU8T, isSlS, fillS, fillP, repl, SO.put, SV.mapH, frzV, frzVL, frzOk, frzOkL, lendOk, SV.bit, bitL, SV.plain, plainL, isE, mapHL, strip, stripL, gok, gokL, forall_const, implies_true, reduceIte, Nat.reduceAdd, Nat.reduceLT, Nat.reduceEqDiff, Nat.reduceBEq, Nat.reduceLeDiff, reduceCtorEq, Nat.reduceSub, Nat.reduceMul, Int.reduceToNat, Int.reduceLT, Int.reduceLE, TES, XRS, XR, eqSg]
  simp only at hk hf
  simp only [show ((l.length : Int) + 1).toNat = l.length + 1 by omega]
  refine ⟨fun hlt => Chk.mk (by omega) fun _ => Chk.mk (by simp only [inR]; omega) fun _ => Chk.mk (by omega) fun _ => ?_, fun hlt => Chk.mk (by omega) fun _ => ?_⟩
  · generalize hs : p.getD k sgz = s at *
    refine VLoops.of (ι := {i : Nat // i ≤ l.length + 1}) (fun x => ⟨[(1, .fs 3 (l.map segc)), (5, .slc 0 0 (l.length + 1)), (7, .ptr 1 0 0), (8, .slc 2 0 (l.length + 1)), (24, .fs 3 (p.map segc)), (25, .i .i64 (p.length : Nat)), (26, .i .i64 (k : Nat)), (35, .i .i64 (l.length + 1 : Nat)), (36, .i .i64 (x.1 : Nat))], [some (.row false 1 (l.length + 1) (rowE booc false (mkB (l.length + 1) f))), some (.blk false [.i .i64 s.kind, .i .i64 s.n, .s s.text]), some (.row false 1 (l.length + 1) (rowE booc false (mkB (l.length + 1) (fun j => if j < x.1 then nxF s l f j else false))))]⟩) (fun x => l.length + 1 - x.1) ⟨0, Nat.zero_le _⟩ (Ent.ren1 [0, 1, 2] (by decide) (by simp only [entCtx, at_cons_zero, at_cons_succ, and_true, true_and]; exact ⟨soLe_same fun _ => rfl, soLe_blk rfl, soLe_row fun j hj => by simp only [rowE, mkB_get hj, booc, Nat.not_lt_zero, if_false]; rfl⟩) (by simp [entEnv, Vg.look, SV.mapH, muL])) ?_
    rintro ⟨i, hi⟩
    simp only [↓XC, XV, entry, isStr, tdOf, szOf, zeroOf, TD.isStruct, okCell, cellsOf, SO.isMap, SO.sz, SO.el, SO.n, SO.ro, mkCf, quietOp, opClass, okLeaf, spl, cellV, isU8T, isSlS, fillS, fillP, repl, SO.put, SV.mapH, frzV, frzVL, frzOk, frzOkL, lendOk, SV.bit, bitL, SV.plain, plainL, isE, mapHL, strip, stripL, gok, gokL, forall_const, implies_true, reduceIte, Nat.reduceAdd, Nat.reduceLT, Nat.reduceEqDiff, Nat.reduceBEq, Nat.reduceLeDiff, reduceCtorEq, Nat.reduceSub, Nat.reduceMul, Int.reduceToNat, Int.reduceLT, Int.reduceLE, TES, XRS, XR, eqSg]
    have hc : ∀ j : Nat, ((j : Int) > 0) = (0 < j) := fun j => propext (by omega)
    simp only [hc]
    refine ⟨fun hil => ?_, fun hil => ?_⟩
    · have hj0 : ((i : Int) - 1).toNat = i - 1 := by omega
      simp only [hj0, mkB_get (show i - 1 < l.length + 1 by omega), mkB_get (show i < l.length + 1 by omega)]
      have hnx := nxF_eq s l f i
      repeat' (first | with_reducible refine Chk.mk ?_ fun _ => ?_ | with_reducible refine And.intro ?_ ?_ | intro _)
      all_goals first
        | (with_reducible refine (?_ : schAll _ _ _ = true); decide +kernel)
        | omega
        | (simp only [inR]; omega)
        | (simp only [Bool.and_eq_true, decide_eq_true_eq] at *; first | omega | (simp only [inR]; omega))
        | (refine ⟨⟨i + 1, by omega⟩, by simp only; omega, ?_⟩; (simp only [Int.natCast_add, Int.natCast_one]); (refine Ent.ren1 [0, 1, 2] (by decide) ?_ ?_); (focus ((simp only [entCtx, at_cons_zero, at_cons_succ, and_true, true_and]); (refine ⟨?_, ?_, ?_⟩); (exact soLe_same fun _ => rfl); (exact soLe_blk rfl); (focus (refine soLe_bools fun j hj => ?_; simp only [rowE, booc, mkB_get hj]; clear hc hf hp h hok hs hlt; (rcases Nat.lt_trichotomy j i with h9 | h9 | h9); (focus (simp [show j ≠ i by omega, show j < i + 1 by omega, h9]; done)); (focus (subst h9; by_cases h0 : 0 < j <;> simp_all [show j - 1 < j ↔ 0 < j by omega]; done)); (focus (simp [show j ≠ i by omega, show ¬ j < i + 1 by omega, show ¬ j < i by omega]; done)))))); (simp [entEnv, Vg.look, SV.mapH, muL]; done))
    · obtain rfl : i = l.length + 1 := by omega
      refine Chk.mk (by simp only [inR]; omega) fun _ => ⟨⟨(k + 1, nxF s l f), by simp only; omega, ?_⟩, by simp only; omega, ?_⟩
      · simp only
        rw [drop_getD p k sgz (by omega), hs] at hf
        exact hf
      · simp only [Int.natCast_add, Int.natCast_one]
        exact (Ent.ren1 [2] (by decide) (by simp only [entCtx, at_cons_zero, at_cons_succ, and_true, true_and]; exact soLe_bools fun j hj => by simp only [rowE, booc, mkB_get hj, if_pos hj]) (by simp [entEnv, Vg.look, SV.mapH, muL]))
  · rw [List.drop_of_length_le (by omega)] at hf
    rw [← hf, mkB_get (by omega)]
    rfl
noncomputable def pe_Match_i : PE := peR (fun (x : List Sg × List Sg) => match x with | (p, l) => [.fs 3 (p.map segc), .fs 3 (l.map segc)]) (fun (x : List Sg × List Sg) => match x with | (p, l) => p.length ≤ 1048576 ∧ l.length ≤ 1048576) (fun (x : List Sg × List Sg) => match x with | (p, l) => .b (sgsOk p && sgsOk l && mtc p l))
theorem pe_Match_i_eq {p l : List Sg} : pe_Match_i [.fs 3 (p.map segc), .fs 3 (l.map segc)] = some (p.length ≤ 1048576 ∧ l.length ≤ 1048576, .b (sgsOk p && sgsOk l && mtc p l)) := peR_eq (by rintro ⟨a0, a1⟩ ⟨b0, b1⟩ h; simp_all [segc_inj]) (p, l)
theorem pe_Match_i_ok : PE1 Try.prog 24 pe_Match_i := peR_ok (by rintro ⟨p, l⟩ hp; exact Match_i p l hp)
noncomputable def pe_l17Match_lt (bound : Nat) : PE := peR (fun (x : List Sg × List Sg) => match x with | (p, l) => [.fs 3 (p.map segc), .fs 3 (l.map segc)]) (fun (x : List Sg × List Sg) => match x with | (p, l) => ((p.length ≤ 1048576 ∧ l.length ≤ 1048576) ∧ p.length + l.length < bound)) (fun (x : List Sg × List Sg) => match x with | (p, l) => .b (mtc p l))
theorem pe_l17Match_lt_eq {bound : Nat} {p l : List Sg} : pe_l17Match_lt bound [.fs 3 (p.map segc), .fs 3 (l.map segc)] = some (((p.length ≤ 1048576 ∧ l.length ≤ 1048576) ∧ p.length + l.length < bound), .b (mtc p l)) := peR_eq (by rintro ⟨a0, a1⟩ ⟨b0, b1⟩ h; simp_all [segc_inj]) (p, l)
theorem l17Match_aux : ∀ (bound : Nat) (p l : List Sg), (p.length ≤ 1048576 ∧ l.length ≤ 1048576) → p.length + l.length < bound → PF Try.prog 71 [.fs 3 (p.map segc), .fs 3 (l.map segc)] (.b (mtc p l)) := by
  intro bound
  induction bound with
  | zero => intro p l _ h; exact absurd h (Nat.not_lt_zero _)
  | succ bound ih =>
  intro p l hp hm
  have hself : PE1 Try.prog 71 (pe_l17Match_lt bound) := peR_ok (by rintro ⟨x0, x1⟩ hx; exact ih x0 x1 hx.1 hx.2)
  refine ⟨rfl, rfl, FnK.of (cf := mkCf Try.prog te [(71, pe_l17Match_lt bound)] 57 0 false (fun _ => false) (kp [(0, [0, 1]), (1, [0, 1, 7]), (2, [4]), (3, [0, 1, 15]), (4, [4]), (5, [4])]) [] [(5, [], [], .q1 0 (.q1 1 (.q1 2 (.q1 3 (.q1 4 (.q1 5 (.q1 6 (.q0 7 [7] (.q1 8 (.q1 9 (.q1 10 (.q1 11 (.q1 13 (.q1 14 (.q0 12 [12] (.q0 15 [15] (.q1 16 (.q1 17 (.q1 18 (.q1 19 (.q1 20 (.q1 21 (.q1 22 (.q1 23 (.alt 24 (.q1 25 (.q1 26 (.fin))) (.fin))))))))))))))))))))))))))]) (mkCf_ok te_ok (l := [(71, pe_l17Match_lt bound)]) (⟨hself, trivial⟩) mixed_ok) Try.func71 rfl rfl rfl (by simp [mkCf]) (by simp [mkCf]) (rs := [.tmp 4]) rfl 100000 ?_⟩
  simp only [↓XC, XV, entry, isStr, tdOf, szOf, zeroOf, TD.isStruct, okCell, cellsOf, SO.isMap, SO.sz, SO.el, SO.n, SO.ro, mkCf, quietOp, opClass, okLeaf, spl, cellV, isU8T, isSlS, fillS, fillP, repl, SO.put, SV.mapH, frzV, frzVL, frzOk, frzOkL, lendOk, SV.bit, bitL, SV.plain, plainL, isE, mapHL, strip, stripL, gok, gokL, forall_const, implies_true, reduceIte, Nat.reduceAdd, Nat.reduceLT, Nat.reduceEqDiff, Nat.reduceBEq, Nat.reduceLeDiff, reduceCtorEq, Nat.reduceSub, Nat.reduceMul, Int.reduceToNat, Int.reduceLT, Int.reduceLE, TES, pe_l17Match_lt_eq, XRS, eqSg, XSL]
  repeat' (first | with_reducible refine Chk.mk ?_ fun _ => ?_ | with_reducible refine And.intro ?_ ?_ | intro _)
  all_goals first
    | (with_reducible refine (?_ : schAll _ _ _ = true); decide +kernel)
    | assumption
    | omega
    | (simp only [List.length_drop]; omega)
    | (rename_i h0; have h0 : p.length = 0 := by omega
       obtain rfl : p = [] := List.length_eq_zero_iff.1 h0
       rw [mtc]; cases l <;> rfl)
    | (simp only [Bool.and_eq_true, decide_eq_true_eq, gt_iff_lt, List.length_drop] at *; first | omega | (refine ⟨?_, ?_⟩ <;> omega))
    | (rw [mtc_step (p := p) (l := l) (by omega)]; first | (rw [if_pos (by assumption)]; done) | (rw [if_neg (by assumption)]; done))
theorem l17Match (p l : List Sg) (hp : p.length ≤ 1048576 ∧ l.length ≤ 1048576) : PF Try.prog 71 [.fs 3 (p.map segc), .fs 3 (l.map segc)] (.b (mtc p l)) := l17Match_aux (p.length + l.length + 1) p l hp (Nat.lt_succ_self _)
noncomputable def pe_l17Match : PE := peR (fun (x : List Sg × List Sg) => match x with | (p, l) => [.fs 3 (p.map segc), .fs 3 (l.map segc)]) (fun (x : List Sg × List Sg) => match x with | (p, l) => p.length ≤ 1048576 ∧ l.length ≤ 1048576) (fun (x : List Sg × List Sg) => match x with | (p, l) => .b (mtc p l))
theorem pe_l17Match_eq {p l : List Sg} : pe_l17Match [.fs 3 (p.map segc), .fs 3 (l.map segc)] = some (p.length ≤ 1048576 ∧ l.length ≤ 1048576, .b (mtc p l)) := peR_eq (by rintro ⟨a0, a1⟩ ⟨b0, b1⟩ h; simp_all [segc_inj]) (p, l)
theorem pe_l17Match_ok : PE1 Try.prog 71 pe_l17Match := peR_ok (by rintro ⟨p, l⟩ hp; exact l17Match p l hp)
theorem l17Once_own (p : List Sg) (hp : p.length ≤ 1048576) : FnK Try.prog 72 0 [.fs 3 (p.map segc)] [] (fun z c => z = .slc 0 0 (once p false).length ∧ c = [some (.row false 3 (once p false).length (rowE segc sgz (once p false)))]) := by
  refine FnK.ofE (cf := mkCf Try.prog te [] 36 0 false (fun _ => false) (kp [(0, [0]), (1, [0, 3]), (2, [0, 3, 7, 8, 9]), (3, [0, 3, 7, 8, 9, 10]), (4, [0, 3, 4, 5, 7, 8, 9]), (5, [0, 3, 5, 7, 8, 9, 29]), (6, [0, 3, 7, 8, 9]), (7, [0, 3, 7, 8, 9]), (8, [2])]) [] []) (mkCf_ok te_ok (l := []) (trivial) mixed_ok) Try.func72 rfl rfl rfl (by simp [mkCf]) (by simp [mkCf]) (rs := [.tmp 2]) rfl 100000 ?_
  simp only [↓XC, XV, entry, isStr, tdOf, szOf, zeroOf, TD.isStruct, okCell, cellsOf, SO.isMap, SO.sz, SO.el, SO.n, SO.ro, mkCf, quietOp, opClass, okLeaf, spl, cellV, isU8T, isSlS, fillS, fillP, repl, SO.put, SV.mapH, frzV, frzVL, frzOk, frzOkL, lendOk, SV.bit, bitL, SV.plain, plainL, isE, mapHL, strip, stripL, gok, gokL, forall_const, implies_true, reduceIte, Nat.reduceAdd, Nat.reduceLT, Nat.reduceEqDiff, Nat.reduceBEq, Nat.reduceLeDiff, reduceCtorEq, Nat.reduceSub, Nat.reduceMul, Int.reduceToNat, Int.reduceLT, Int.reduceLE, TES, XRS]
  refine VLoops.of (ι := {x : Nat × List Sg // x.1 ≤ p.length ∧ x.2.length ≤ x.1 ∧ x.2 ++ once (p.drop x.1) (decide (0 < x.1) && decide ((p.getD (x.1 - 1) sgz).kind = 5)) = once p false}) (fun x => ⟨[(0, .fs 3 (p.map segc)), (3, .slc 0 0 x.1.2.length), (7, .fs 3 (p.map segc)), (8, .i .i64 (p.length : Nat)), (9, .i .i64 (x.1.1 : Nat))], [some (.row false 3 x.1.2.length (rowE segc sgz x.1.2))]⟩) (fun x => p.length - x.1.1) ⟨(0, []), Nat.zero_le _, Nat.le_refl _, rfl⟩ (Ent.ren1 [0] (by decide) (by simp only [entCtx, at_cons_zero, at_cons_succ, and_true, true_and]; exact soLe_row fun j hj => absurd hj (Nat.not_lt_zero _)) (by simp [entEnv, Vg.look, SV.mapH, muL])) ?_
  rintro ⟨⟨i, q⟩, hi, hq, ho⟩
  simp only [↓XC, XV, entry, isStr, tdOf, szOf, zeroOf, TD.isStruct, okCell, cellsOf, SO.isMap, SO.sz, SO.el, SO.n, SO.ro, mkCf, quietOp, opClass, okLeaf, spl, cellV, isU8T, isSlS, fillS, fillP, repl, SO.put, SV.mapH, frzV, frzVL, frzOk, frzOkL, lendOk, SV.bit, bitL, SV.plain, plainL, isE, mapHL, strip, stripL, gok, gokL, forall_const, implies_true, reduceIte, Nat.reduceAdd, Nat.reduceLT, Nat.reduceEqDiff, Nat.reduceBEq, Nat.reduceLeDiff, reduceCtorEq, Nat.reduceSub, Nat.reduceMul, Int.reduceToNat, Int.reduceLT, Int.reduceLE, TES, XRS]
  simp only at hi hq ho
  refine ⟨fun hlt => ?_, fun hlt => ?_⟩
  · have hj0 : ((i : Int) - 1).toNat = i - 1 := by omega
    have hz : ((i : Int) = 0) = (i = 0) := propext (by omega)
    rw [drop_getD p i sgz (by omega)] at ho
    simp only [hj0, hz]
    generalize hs : p.getD i sgz = s at *
    have hx : Pl.once (s :: p.drop (i + 1)) (decide (0 < i) && decide ((p.getD (i - 1) sgz).kind = 5)) = if (decide (0 < i) && decide ((p.getD (i - 1) sgz).kind = 5)) && decide (s.kind = 5) then Pl.once (p.drop (i + 1)) (decide (0 < i) && decide ((p.getD (i - 1) sgz).kind = 5)) else s :: Pl.once (p.drop (i + 1)) (decide (s.kind = 5)) := rfl
    rw [hx] at ho
    refine Chk.mk (by omega) fun _ => Chk.mk (fun h => by simp at h; simp only [inR]; omega) fun _ => Chk.mk (fun h => by simp at h; omega) fun _ => ⟨fun hb => ?_, fun hb => ?_⟩
    · rw [if_neg (by intro h9; simp at h9 hb; simp_all; try omega)] at ho
      refine ⟨litEl_ok rfl rfl, Chk.mk (by omega) fun _ => Chk.mk (by simp only [inR]; omega) fun _ => ⟨⟨(i + 1, q ++ [s]), by simp only; omega, by simp; omega, ?_⟩, by simp only; omega, ?_⟩⟩
      · simp only [Nat.add_sub_cancel, hs, Nat.succ_pos, decide_true, Bool.true_and, List.append_assoc, List.singleton_append]
        exact ho
      · simp only [Int.natCast_add, Int.natCast_one]
        exact (Ent.ren1 [3] (by decide) (by simp only [entCtx, at_cons_zero, at_cons_succ, and_true, true_and]; exact soLe_push (y := s) (fun _ => rfl) rfl (fun _ _ => rfl) rfl) (by simp [entEnv, Vg.look, SV.mapH, muL]))
    · have h9 : 0 < i ∧ s.kind = 5 ∧ (p.getD (i - 1) sgz).kind = 5 := by simp at hb; refine ⟨by omega, hb.1.2, ?_⟩; simpa using hb.2
      rw [if_pos (by simp only [h9.1, h9.2.1, h9.2.2]; rfl)] at ho
      refine Chk.mk (by simp only [inR]; omega) fun _ => ⟨⟨(i + 1, q), by simp only; omega, by simp only; omega, ?_⟩, by simp only; omega, ?_⟩
      · simp only [Nat.add_sub_cancel, hs, Nat.succ_pos, decide_true, Bool.true_and, h9.2.1]
        simpa only [h9.1, h9.2.2, decide_true, Bool.and_true] using ho
      · simp only [Int.natCast_add, Int.natCast_one]
        exact (Ent.ren1 [0] (by decide) (by simp only [entCtx, at_cons_zero, at_cons_succ, and_true, true_and]; exact soLe_same fun _ => rfl) (by simp [entEnv, Vg.look, SV.mapH, muL]))
  · rw [List.drop_of_length_le (by omega)] at ho
    have ho : q = Pl.once p false := by rw [← ho]; simp [Pl.once]
    rw [← ho]
    exact ⟨[0], by decide, by simp only [entCtx, at_cons_zero, at_cons_succ, and_true, true_and]; exact soLe_same fun _ => rfl, by simp only [↓XC, XV, entry, isStr, tdOf, szOf, zeroOf, TD.isStruct, okCell, cellsOf, SO.isMap, SO.sz, SO.el, SO.n, SO.ro, mkCf, quietOp, opClass, okLeaf, spl, cellV, isU8T, isSlS, fillS, fillP, repl, SO.put, SV.mapH, frzV, frzVL, frzOk, frzOkL, lendOk, SV.bit, bitL, SV.plain, plainL, isE, mapHL, strip, stripL, gok, gokL, forall_const, implies_true, reduceIte, Nat.reduceAdd, Nat.reduceLT, Nat.reduceEqDiff, Nat.reduceBEq, Nat.reduceLeDiff, reduceCtorEq, Nat.reduceSub, Nat.reduceMul, Int.reduceToNat, Int.reduceLT, Int.reduceLE]; try simp [muL, SV.mapH, mapHL], by simp [newRw, SO.ro], by simp⟩
theorem l17Once (p : List Sg) (hp : p.length ≤ 1048576) : PF Try.prog 72 [.fs 3 (p.map segc)] (.fs 3 ((once p false).map segc)) := PF.ofOwn (l17Once_own p hp) rfl rfl (by simp only [frzOk, frzOkL, frzV, frzVL, at_cons_zero, and_true]; exact ⟨⟨by omega, fun j hj => ⟨rfl, rfl⟩⟩, by rw [rowE_list rfl]⟩)
noncomputable def pe_l17Once : PE := peR (fun (p : List Sg) => [.fs 3 (p.map segc)]) (fun (p : List Sg) => p.length ≤ 1048576) (fun (p : List Sg) => .fs 3 ((once p false).map segc))
theorem pe_l17Once_eq {p : List Sg} : pe_l17Once [.fs 3 (p.map segc)] = some (p.length ≤ 1048576, .fs 3 ((once p false).map segc)) := peR_eq (by rintro a b h; simp_all [segc_inj]) p
theorem pe_l17Once_ok : PE1 Try.prog 72 pe_l17Once := peR_ok (by rintro p hp; exact l17Once p hp)
theorem Match_s (p l : List Sg) (hp : p.length ≤ 1048576 ∧ l.length ≤ 1048576) : PF Try.prog 33 [.fs 3 (p.map segc), .fs 3 (l.map segc)] (.b (sgsOk p && sgsOk l && mtc p l)) := by
  refine ⟨rfl, rfl, FnK.of (cf := mkCf Try.prog te [(16, pe_SegOk_s), (72, pe_l17Once), (71, pe_l17Match)] 33 0 false (fun _ => false) (kp [(0, [0, 1]), (1, [0, 1, 9, 10, 11]), (2, [0, 1, 9, 10, 11, 12]), (3, [0, 1, 6, 9, 10, 11]), (4, [0, 1, 9, 10, 11, 17]), (5, [4]), (6, [0, 1, 9, 10, 11]), (7, [0, 1, 19, 20, 21]), (8, [0, 1, 19, 20, 21, 22]), (9, [0, 1, 8, 19, 20, 21]), (10, [0, 1, 19, 20, 21, 27]), (11, [4]), (12, [0, 1, 19, 20, 21]), (13, [4])]) [] []) (mkCf_ok te_ok (l := [(16, pe_SegOk_s), (72, pe_l17Once), (71, pe_l17Match)]) (⟨pe_SegOk_s_ok, pe_l17Once_ok, pe_l17Match_ok, trivial⟩) mixed_ok) Try.func33 rfl rfl rfl (by simp [mkCf]) (by simp [mkCf]) (rs := [.tmp 4]) rfl 100000 ?_⟩
  simp only [↓XC, XV, entry, isStr, tdOf, szOf, zeroOf, TD.isStruct, okCell, cellsOf, SO.isMap, SO.sz, SO.el, SO.n, SO.ro, mkCf, quietOp, opClass, okLeaf, spl, cellV, isU8T, isSlS, fillS, fillP, repl, SO.put, SV.mapH, frzV, frzVL, frzOk, frzOkL, lendOk, SV.bit, bitL, SV.plain, plainL, isE, mapHL, strip, stripL, gok, gokL, forall_const, implies_true, reduceIte, Nat.reduceAdd, Nat.reduceLT, Nat.reduceEqDiff, Nat.reduceBEq, Nat.reduceLeDiff, reduceCtorEq, Nat.reduceSub, Nat.reduceMul, Int.reduceToNat, Int.reduceLT, Int.reduceLE, TES, pe_SegOk_s_eq, pe_l17Once_eq, pe_l17Match_eq, XRS]
  refine VLoops.of (ι := {i : Nat // i ≤ p.length ∧ (p.take i).all sgOk = true}) (fun x => ⟨[(0, .fs 3 (p.map segc)), (1, .fs 3 (l.map segc)), (9, .fs 3 (p.map segc)), (10, .i .i64 (p.length : Nat)), (11, .i .i64 (x.1 : Nat))], []⟩) (fun x => p.length - x.1) ⟨0, Nat.zero_le _, by simp⟩ (Ent.refl _ _) ?_
  rintro ⟨i, hi, hj⟩
  simp only [↓XC, XV, entry, isStr, tdOf, szOf, zeroOf, TD.isStruct, okCell, cellsOf, SO.isMap, SO.sz, SO.el, SO.n, SO.ro, mkCf, quietOp, opClass, okLeaf, spl, cellV, isU8T, isSlS, fillS, fillP, repl, SO.put, SV.mapH, frzV, frzVL, frzOk, frzOkL, lendOk, SV.bit, bitL, SV.plain, plainL, isE, mapHL, strip, stripL, gok, gokL, forall_const, implies_true, reduceIte, Nat.reduceAdd, Nat.reduceLT, Nat.reduceEqDiff, Nat.reduceBEq, Nat.reduceLeDiff, reduceCtorEq, Nat.reduceSub, Nat.reduceMul, Int.reduceToNat, Int.reduceLT, Int.reduceLE, TES, pe_SegOk_s_eq, pe_l17Once_eq, pe_l17Match_eq, XRS]
  refine ⟨fun hl => Chk.mk (by omega) fun _ => ⟨fun h => ?_, fun h => Chk.mk (by simp only [inR]; omega) fun _ => ⟨⟨i + 1, by omega, ?_⟩, by simp only; omega, (by (try simp only [Int.natCast_add, Int.natCast_one]); exact Ent.nil (by simp [entEnv, Vg.look, SV.mapH]))⟩⟩, fun hl => ?_⟩
  · have : sgsOk p = false := by
      unfold sgsOk
      rw [List.all_eq_false]
      exact ⟨_, getD_mem (z := sgz) (by omega : i < p.length), by simpa using h⟩
    simp [this]
  · rw [take_snoc sgz (by omega), List.all_append, hj]
    simpa using h
  · rw [show i = p.length by omega, List.take_length] at hj
    have okp : sgsOk p = true := hj
    clear hj hl hi i
    refine VLoops.of (ι := {i : Nat // i ≤ l.length ∧ (l.take i).all sgOk = true}) (fun x => ⟨[(0, .fs 3 (p.map segc)), (1, .fs 3 (l.map segc)), (19, .fs 3 (l.map segc)), (20, .i .i64 (l.length : Nat)), (21, .i .i64 (x.1 : Nat))], []⟩) (fun x => l.length - x.1) ⟨0, Nat.zero_le _, by simp⟩ (Ent.refl _ _) ?_
    rintro ⟨i, hi, hj⟩
    simp only [↓XC, XV, entry, isStr, tdOf, szOf, zeroOf, TD.isStruct, okCell, cellsOf, SO.isMap, SO.sz, SO.el, SO.n, SO.ro, mkCf, quietOp, opClass, okLeaf, spl, cellV, isU8T, isSlS, fillS, fillP, repl, SO.put, SV.mapH, frzV, frzVL, frzOk, frzOkL, lendOk, SV.bit, bitL, SV.plain, plainL, isE, mapHL, strip, stripL, gok, gokL, forall_const, implies_true, reduceIte, Nat.reduceAdd, Nat.reduceLT, Nat.reduceEqDiff, Nat.reduceBEq, Nat.reduceLeDiff, reduceCtorEq, Nat.reduceSub, Nat.reduceMul, Int.reduceToNat, Int.reduceLT, Int.reduceLE, TES, pe_SegOk_s_eq, pe_l17Once_eq, pe_l17Match_eq, XRS]
    refine ⟨fun hl => Chk.mk (by omega) fun _ => ⟨fun h => ?_, fun h => Chk.mk (by simp only [inR]; omega) fun _ => ⟨⟨i + 1, by omega, ?_⟩, by simp only; omega, (by (try simp only [Int.natCast_add, Int.natCast_one]); exact Ent.nil (by simp [entEnv, Vg.look, SV.mapH]))⟩⟩, fun hl => ?_⟩
    · have : sgsOk l = false := by
        unfold sgsOk
        rw [List.all_eq_false]
        exact ⟨_, getD_mem (z := sgz) (by omega : i < l.length), by simpa using h⟩
      simp [this]
    · rw [take_snoc sgz (by omega), List.all_append, hj]
      simpa using h
    · rw [show i = l.length by omega, List.take_length] at hj
      have okl : sgsOk l = true := hj
      clear hj hl hi i
      exact Chk.mk (by omega) fun _ => Chk.mk ⟨by have := once_len p false; omega, by omega⟩ fun _ => by rw [mtc_once, okp, okl]; rfl
noncomputable def pe_Match_s : PE := peR (fun (x : List Sg × List Sg) => match x with | (p, l) => [.fs 3 (p.map segc), .fs 3 (l.map segc)]) (fun (x : List Sg × List Sg) => match x with | (p, l) => p.length ≤ 1048576 ∧ l.length ≤ 1048576) (fun (x : List Sg × List Sg) => match x with | (p, l) => .b (sgsOk p && sgsOk l && mtc p l))
theorem pe_Match_s_eq {p l : List Sg} : pe_Match_s [.fs 3 (p.map segc), .fs 3 (l.map segc)] = some (p.length ≤ 1048576 ∧ l.length ≤ 1048576, .b (sgsOk p && sgsOk l && mtc p l)) := peR_eq (by rintro ⟨a0, a1⟩ ⟨b0, b1⟩ h; simp_all [segc_inj]) (p, l)
theorem pe_Match_s_ok : PE1 Try.prog 33 pe_Match_s := peR_ok (by rintro ⟨p, l⟩ hp; exact Match_s p l hp)
end Go.T28
