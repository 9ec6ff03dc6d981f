/- Own text: part FoldA. -/
import Derived.Test.YtkbcappnemjjnaaGreatBaseE
import Derived.Test.YtkbcappnemjjnaaGreatTypes2
import Derived.Test.YtkbcappnemjjnaaGreatTextA
import Derived.Test.YtkbcappnemjjnaaGreatEventA
import Derived.Test.YtkbcappnemjjnaaGreatLineA
import Derived.Test.YtkbcappnemjjnaaGreatRuneA
import Derived.Test.YtkbcappnemjjnaaGreatShelf
set_option linter.unusedVariables false
set_option linter.unusedSimpArgs false
namespace Go.T62
open Go.Proofs Go.Vg Go.RowKit Go.TT Go.Pl Go.T8 Go.T12 Go.T60 Go.T61 Go.TSh
set_option linter.unusedVariables false
set_option linter.unusedSimpArgs false
set_option maxRecDepth 10000
set_option maxHeartbeats 4000000
theorem FoldFlow_i (l : List Pc) (hp : pcW l ≤ 16777216) : PF Tryz.prog 109 [.fs 2 (l.map pcc)] (.s (foldT l)) := by
  refine ⟨rfl, rfl, FnK.of (cf := mkCf Tryz.prog te [(119, pe_rptS)] 65 0 false (fun _ => false) (kp [(0, [0]), (1, [0, 10]), (2, [2]), (3, [0, 3]), (4, [0, 3, 4]), (5, [0, 3, 4, 5]), (6, [0, 3, 4, 5, 6]), (7, [0, 3, 4, 5, 6, 22]), (8, [0, 3, 4, 5, 6]), (9, [0, 3, 4, 5, 6, 7]), (10, [0, 3, 4, 5, 6, 7, 43]), (11, [0, 3, 4, 5, 6]), (12, [0, 3, 4, 5, 6, 7, 46]), (13, [0, 3, 6, 7]), (14, [0, 3, 6, 7, 53]), (15, [0, 3, 6, 7]), (16, [0, 3, 6, 7]), (17, [0, 3, 4, 6]), (18, [0, 3, 4, 5, 6]), (19, [2])]) [] []) (mkCf_ok te_ok (l := [(119, pe_rptS)]) (⟨pe_rptS_ok, trivial⟩) mixed_ok) Tryz.func109 rfl rfl rfl (by simp [mkCf]) (by simp [mkCf]) (rs := [.tmp 2]) rfl 100000 ?_⟩
  simp only [↓XC, XV, XT, forall_const, implies_true, reduceIte, Nat.reduceAdd, Nat.reduceLT, Nat.reduceEqDiff, Nat.reduceBEq, Nat.reduceLeDiff, reduceCtorEq, Nat.reduceSub, Nat.reduceMul, Int.reduceToNat, Int.reduceLT, Int.reduceLE, TES, pe_rptS_eq, XRP]
  have hW := pcW_ge l
  refine ⟨fun h => ?_, fun h => Chk.mk (by omega) fun _ => Chk.mk (by omega) fun _ => ?_⟩
  · obtain rfl : l = [] := List.length_eq_zero_iff.1 (by omega)
    rfl
  refine VLoops.of (ι := {x : Nat × Bs × Bool × Nat // 1 ≤ x.1 ∧ x.1 ≤ l.length ∧ x.2.1.length + x.2.2.2 + pcW (l.drop x.1) ≤ pcW l ∧ x.2.1 ++ foldR x.2.2.1 x.2.2.2 (l.drop x.1) = foldT l}) (fun x => ⟨[(0, .fs 2 (l.map pcc)), (3, .s x.1.2.1), (4, .b x.1.2.2.1), (5, .i .i64 (x.1.2.2.2 : Nat)), (6, .i .i64 (x.1.1 : Nat))], []⟩) (fun x => l.length - x.1.1) ⟨(1, (l.getD 0 pcz).text, (l.getD 0 pcz).glue, 0), by simp only; omega, by simp only; omega, by have := pcW_drop (l := l) (i := 0) (by omega); simp only [List.drop_zero, Nat.zero_add] at this; simp only; omega, (foldT_cons (by omega)).symm⟩ (Ent.refl _ _) ?_
  rintro ⟨⟨i, out, glue, many⟩, h1, h2, h3, h4⟩
  simp only [↓XC, XV, XT, forall_const, implies_true, reduceIte, Nat.reduceAdd, Nat.reduceLT, Nat.reduceEqDiff, Nat.reduceBEq, Nat.reduceLeDiff, reduceCtorEq, Nat.reduceSub, Nat.reduceMul, Int.reduceToNat, Int.reduceLT, Int.reduceLE, TES, pe_rptS_eq, XRP]
  simp only at h1 h2 h3 h4
  refine ⟨fun hl => Chk.mk (by omega) fun _ => Chk.mk (fun _ => by simp only [inR]; omega) fun _ => ?_, fun hl => ?_⟩
  · have hi : i < l.length := by omega
    have hw := pcW_drop (l := l) hi
    have hrl : Lib.repeatL [10] many = List.replicate many 10 := by have := Lib.repeatL_replicate 10 1 many; simpa using this
    have hX : (decide ((l.getD i pcz).text = []) && !(l.getD i pcz).glue && decide ((i : Int) < (l.length : Int) - 1)) = decide ((l.getD i pcz).text = [] ∧ (l.getD i pcz).glue = false ∧ i + 1 < l.length) := by
      rw [Bool.eq_iff_iff]
      simp only [Bool.and_eq_true, decide_eq_true_eq, Bool.not_eq_true']
      constructor
      · rintro ⟨⟨a, b⟩, c⟩; exact ⟨a, b, by omega⟩
      · rintro ⟨a, b, c⟩; exact ⟨⟨a, b⟩, by omega⟩
    rw [hX, hrl]
    refine ⟨fun hx => ?_, fun hx => ?_⟩
    · have hx := of_decide_eq_true hx
      rw [hx.1] at hw
      simp only [List.length_nil] at hw
      exact Chk.mk (by simp only [inR]; omega) fun _ => Chk.mk (by simp only [inR]; omega) fun _ => ⟨⟨(i + 1, out, glue, many + 1), by simp only; omega, by simp only; omega, by simp only; omega, by simp only; rw [← foldR_skip hx.2.2 hx.1 hx.2.1]; exact h4⟩, by simp only; omega, (by (try simp only [Int.natCast_add, Int.natCast_one]); exact Ent.nil (by simp [entEnv, Vg.look, SV.mapH]))⟩
    · have hx := of_decide_eq_false hx
      rw [foldR_put hi hx] at h4
      refine ⟨fun hm => ?_, fun hm => ⟨fun hg => ?_, fun hg => ?_⟩⟩
      · rw [if_pos (by omega)] at h4
        refine Chk.mk (by omega) fun _ => Chk.mk (by simp only [List.length_replicate]; omega) fun _ => Chk.mk (by simp only [List.length_replicate]; omega) fun _ => Chk.mk (by simp only [inR]; omega) fun _ => ⟨⟨(i + 1, out ++ List.replicate many 10 ++ (l.getD i pcz).text, (l.getD i pcz).glue, 0), by simp only; omega, by simp only; omega, by simp only [List.length_append, List.length_replicate]; omega, by simp only; rw [← h4]; simp only [List.append_assoc]⟩, by simp only; omega, (by (try simp only [Int.natCast_add, Int.natCast_one]); exact Ent.nil (by simp [entEnv, Vg.look, SV.mapH]))⟩
      · obtain rfl : many = 0 := by omega
        have hg : glue = false := by simpa using hg
        rw [hg] at h4
        simp only [Nat.lt_irrefl, if_false, Bool.false_eq_true] at h4
        refine Chk.mk (by omega) fun _ => Chk.mk (by omega) fun _ => Chk.mk (by simp only [inR]; omega) fun _ => ⟨⟨(i + 1, out ++ [32] ++ (l.getD i pcz).text, (l.getD i pcz).glue, 0), by simp only; omega, by simp only; omega, by simp only [List.length_append, List.length_singleton]; omega, by simp only; rw [← h4]; simp only [List.append_assoc]⟩, by simp only; omega, (by (try simp only [Int.natCast_add, Int.natCast_one]); exact Ent.nil (by simp [entEnv, Vg.look, SV.mapH]))⟩
      · obtain rfl : many = 0 := by omega
        have hg : glue = true := by simpa using hg
        rw [hg] at h4
        simp only [Nat.lt_irrefl, if_false, if_true, List.nil_append] at h4
        refine Chk.mk (by omega) fun _ => Chk.mk (by simp only [inR]; omega) fun _ => ⟨⟨(i + 1, out ++ (l.getD i pcz).text, (l.getD i pcz).glue, 0), by simp only; omega, by simp only; omega, by simp only [List.length_append]; omega, by simp only; rw [← h4]; simp only [List.append_assoc]⟩, by simp only; omega, (by (try simp only [Int.natCast_add, Int.natCast_one]); exact Ent.nil (by simp [entEnv, Vg.look, SV.mapH]))⟩
  · obtain rfl : i = l.length := by omega
    rw [List.drop_length] at h4
    rw [← h4]; simp [foldR]
noncomputable def pe_FoldFlow_i : PE := peR (fun (l : List Pc) => [.fs 2 (l.map pcc)]) (fun (l : List Pc) => pcW l ≤ 16777216) (fun (l : List Pc) => .s (foldT l))
theorem pe_FoldFlow_i_eq {l : List Pc} : pe_FoldFlow_i [.fs 2 (l.map pcc)] = some (pcW l ≤ 16777216, .s (foldT l)) := peR_eq (by rintro a b h; simp_all [pcc_inj]) l
theorem pe_FoldFlow_i_ok : PE1 Tryz.prog 109 pe_FoldFlow_i := peR_ok (by rintro l hp; exact FoldFlow_i l hp)
theorem FoldFlow_s (l : List Pc) (hp : pcW l ≤ 16777216) : PF Tryz.prog 77 [.fs 2 (l.map pcc)] (.s (foldT l)) := by
  refine ⟨rfl, rfl, FnK.of (cf := mkCf Tryz.prog te [] 62 0 false (fun _ => false) (kp [(0, [0]), (1, [0, 3]), (2, [0, 3, 4]), (3, [0, 3, 4, 5]), (4, [0, 3, 4, 5, 8, 9, 10]), (5, [0, 3, 4, 5, 8, 9, 10, 11]), (6, [0, 3, 4, 5, 6, 7, 8, 9, 10]), (7, [0, 3, 4, 5, 6, 7, 8, 9, 10, 33]), (8, [0, 3, 4, 5, 8, 9, 10]), (9, [0, 3, 4, 7, 8, 9, 10, 45]), (10, [0, 3, 4, 7, 8, 9, 10]), (11, [0, 3, 4, 7, 8, 9, 10, 49]), (12, [0, 3, 4, 7, 8, 9, 10]), (13, [0, 3, 4, 7, 8, 9, 10]), (14, [0, 3, 4, 7, 8, 9, 10]), (15, [0, 3, 4, 5, 8, 9, 10]), (16, [0, 3, 4, 5, 8, 9, 10]), (17, [2])]) [] []) (mkCf_ok te_ok (l := []) (trivial) mixed_ok) Tryz.func77 rfl rfl rfl (by simp [mkCf]) (by simp [mkCf]) (rs := [.tmp 2]) rfl 100000 ?_⟩
  simp only [↓XC, XV, XT, forall_const, implies_true, reduceIte, Nat.reduceAdd, Nat.reduceLT, Nat.reduceEqDiff, Nat.reduceBEq, Nat.reduceLeDiff, reduceCtorEq, Nat.reduceSub, Nat.reduceMul, Int.reduceToNat, Int.reduceLT, Int.reduceLE, TES, XRP]
  have hW := pcW_ge l
  refine VLoops.of (ι := {x : Nat × Bs × Bool × Nat // x.1 ≤ l.length ∧ x.2.1.length + x.2.2.2 + pcW (l.drop x.1) ≤ pcW l ∧ if x.1 = 0 then x.2.1 = [] ∧ x.2.2.1 = false ∧ x.2.2.2 = 0 else x.2.1 ++ foldR x.2.2.1 x.2.2.2 (l.drop x.1) = foldT l}) (fun x => ⟨[(0, .fs 2 (l.map pcc)), (3, .s x.1.2.1), (4, .i .i64 (x.1.2.2.2 : Nat)), (5, .b x.1.2.2.1), (8, .fs 2 (l.map pcc)), (9, .i .i64 (l.length : Nat)), (10, .i .i64 (x.1.1 : Nat))], []⟩) (fun x => l.length - x.1.1) ⟨(0, [], false, 0), Nat.zero_le _, by simp, rfl, rfl, rfl⟩ (Ent.refl _ _) ?_
  rintro ⟨⟨i, out, glue, many⟩, h1, h2, h3⟩
  simp only [↓XC, XV, XT, forall_const, implies_true, reduceIte, Nat.reduceAdd, Nat.reduceLT, Nat.reduceEqDiff, Nat.reduceBEq, Nat.reduceLeDiff, reduceCtorEq, Nat.reduceSub, Nat.reduceMul, Int.reduceToNat, Int.reduceLT, Int.reduceLE, TES, XRP]
  simp only at h1 h2 h3
  refine ⟨fun hl => Chk.mk (by omega) fun _ => Chk.mk (fun _ => by simp only [inR]; omega) fun _ => ?_, fun hl => ?_⟩
  · have hi : i < l.length := by omega
    have hw := pcW_drop (l := l) hi
    have hX : (decide ((i : Int) > 0) && decide ((i : Int) < (l.length : Int) - 1) && decide ((l.getD i pcz).text = []) && !(l.getD i pcz).glue) = decide (0 < i ∧ (l.getD i pcz).text = [] ∧ (l.getD i pcz).glue = false ∧ i + 1 < l.length) := by
      rw [Bool.eq_iff_iff]
      simp only [Bool.and_eq_true, decide_eq_true_eq, Bool.not_eq_true']
      constructor
      · rintro ⟨⟨⟨d, c⟩, a⟩, b⟩; exact ⟨by omega, a, b, by omega⟩
      · rintro ⟨d, a, b, c⟩; exact ⟨⟨⟨by omega, by omega⟩, a⟩, b⟩
    rw [hX]
    refine ⟨fun hx => ?_, fun hx => ?_⟩
    · have hx := of_decide_eq_true hx
      rw [hx.2.1] at hw
      simp only [List.length_nil] at hw
      rw [if_neg (by omega)] at h3
      exact Chk.mk (by simp only [inR]; omega) fun _ => Chk.mk (by simp only [inR]; omega) fun _ => ⟨⟨(i + 1, out, glue, many + 1), by simp only; omega, by simp only; omega, by simp only [Nat.succ_ne_zero, if_false]; rw [← foldR_skip hx.2.2.2 hx.2.1 hx.2.2.1]; exact h3⟩, by simp only; omega, (by (try simp only [Int.natCast_add, Int.natCast_one]); exact Ent.nil (by simp [entEnv, Vg.look, SV.mapH]))⟩
    · have hx := of_decide_eq_false hx
      have hend : ∀ oo : Bs, oo = (if decide ((i : Int) > 0) && decide ((many : Int) = 0) && !glue then out ++ [32] else out) ++ List.replicate many 10 → oo ++ (l.getD i pcz).text ++ foldR (l.getD i pcz).glue 0 (l.drop (i + 1)) = foldT l := by
        rintro oo rfl
        by_cases h0 : i = 0
        · subst h0
          rw [if_pos rfl] at h3
          obtain ⟨rfl, rfl, rfl⟩ := h3
          rw [foldT_cons hi]; simp
        · rw [if_neg h0, foldR_put hi (fun h => hx ⟨by omega, h⟩)] at h3
          rw [← h3]
          by_cases hm : 0 < many
          · rw [if_pos hm, if_neg (by simp; omega)]; simp only [List.append_assoc]
          · obtain rfl : many = 0 := by omega
            cases glue <;> simp [show 0 < i by omega]
      refine ⟨fun hg => Chk.mk (by omega) fun _ => ?_, fun hg => ?_⟩
      · rw [if_pos hg] at hend
        have hm0 : many = 0 := by simp only [Bool.or_eq_true, Bool.and_eq_true, Bool.or_eq_false_iff, Bool.and_eq_false_iff, decide_eq_true_eq, decide_eq_false_iff_not, Bool.not_eq_true', Bool.not_eq_false', beq_iff_eq, beq_eq_false_iff_ne, ne_eq, ge_iff_le, gt_iff_lt, Int.not_le, Int.not_lt, Int.ofNat_le, Int.ofNat_lt] at hg; omega
        refine VLoops.of (ι := {x : Nat × Bs // x.2.length + x.1 ≤ (out ++ [32] : Bs).length + many ∧ x.2 ++ List.replicate x.1 10 = out ++ [32] ++ List.replicate many 10}) (fun x => ⟨[(0, .fs 2 (l.map pcc)), (3, .s x.1.2), (4, .i .i64 (x.1.1 : Nat)), (7, .ptr 0 0 0), (8, .fs 2 (l.map pcc)), (9, .i .i64 (l.length : Nat)), (10, .i .i64 (i : Nat))], [some (.blk false [.s (l.getD i pcz).text, .b (l.getD i pcz).glue])]⟩) (fun x => x.1.1) ⟨(many, out ++ [32]), Nat.le_refl _, rfl⟩ (by first | exact Ent.refl _ _ | exact Ent.ren1 [0] (by decide) (by simp only [entCtx, at_cons_zero, at_cons_succ, and_true, true_and]; exact soLe_blk rfl) (by simp [entEnv, Vg.look, SV.mapH, muL])) ?_
        rintro ⟨⟨k, oo⟩, k1, k2⟩
        simp only [↓XC, XV, XT, forall_const, implies_true, reduceIte, Nat.reduceAdd, Nat.reduceLT, Nat.reduceEqDiff, Nat.reduceBEq, Nat.reduceLeDiff, reduceCtorEq, Nat.reduceSub, Nat.reduceMul, Int.reduceToNat, Int.reduceLT, Int.reduceLE, TES, XRP]
        simp only [List.length_append, List.length_singleton] at k1
        simp only at k2
        refine ⟨fun hk => Chk.mk (by omega) fun _ => Chk.mk (by simp only [inR]; omega) fun _ => ⟨⟨(k - 1, oo ++ [10]), by simp only [List.length_append, List.length_singleton]; omega, by simp only; rw [repl_snoc, show k - 1 + 1 = k by omega]; exact k2⟩, by simp only; omega, ?_⟩, fun hk => ?_⟩
        · simp only [show ((k : Int) - 1) = ((k - 1 : Nat) : Int) by omega]
          exact Ent.refl _ _
        · obtain rfl : k = 0 := by omega
          simp only [List.replicate_zero, List.append_nil] at k2
          have hee := hend oo k2
          refine Chk.mk (by omega) fun _ => Chk.mk (by simp only [inR]; omega) fun _ => ⟨⟨(i + 1, oo ++ (l.getD i pcz).text, (l.getD i pcz).glue, 0), by simp only; omega, by simp only [List.length_append]; omega, by simp only [Nat.succ_ne_zero, if_false]; exact hee⟩, by simp only; omega, (by (try simp only [Int.natCast_add, Int.natCast_one]); exact Ent.nil (by simp [entEnv, Vg.look, SV.mapH]))⟩
      · rw [hg] at hend
        simp only [Bool.false_eq_true, if_false] at hend
        refine VLoops.of (ι := {x : Nat × Bs // x.2.length + x.1 ≤ (out : Bs).length + many ∧ x.2 ++ List.replicate x.1 10 = out ++ List.replicate many 10}) (fun x => ⟨[(0, .fs 2 (l.map pcc)), (3, .s x.1.2), (4, .i .i64 (x.1.1 : Nat)), (7, .ptr 0 0 0), (8, .fs 2 (l.map pcc)), (9, .i .i64 (l.length : Nat)), (10, .i .i64 (i : Nat))], [some (.blk false [.s (l.getD i pcz).text, .b (l.getD i pcz).glue])]⟩) (fun x => x.1.1) ⟨(many, out), Nat.le_refl _, rfl⟩ (by first | exact Ent.refl _ _ | exact Ent.ren1 [0] (by decide) (by simp only [entCtx, at_cons_zero, at_cons_succ, and_true, true_and]; exact soLe_blk rfl) (by simp [entEnv, Vg.look, SV.mapH, muL])) ?_
        rintro ⟨⟨k, oo⟩, k1, k2⟩
        simp only [↓XC, XV, XT, forall_const, implies_true, reduceIte, Nat.reduceAdd, Nat.reduceLT, Nat.reduceEqDiff, Nat.reduceBEq, Nat.reduceLeDiff, reduceCtorEq, Nat.reduceSub, Nat.reduceMul, Int.reduceToNat, Int.reduceLT, Int.reduceLE, TES, XRP]
        simp only [List.length_append, List.length_singleton] at k1
        simp only at k2
        refine ⟨fun hk => Chk.mk (by omega) fun _ => Chk.mk (by simp only [inR]; omega) fun _ => ⟨⟨(k - 1, oo ++ [10]), by simp only [List.length_append, List.length_singleton]; omega, by simp only; rw [repl_snoc, show k - 1 + 1 = k by omega]; exact k2⟩, by simp only; omega, ?_⟩, fun hk => ?_⟩
        · simp only [show ((k : Int) - 1) = ((k - 1 : Nat) : Int) by omega]
          exact Ent.refl _ _
        · obtain rfl : k = 0 := by omega
          simp only [List.replicate_zero, List.append_nil] at k2
          have hee := hend oo k2
          refine Chk.mk (by omega) fun _ => Chk.mk (by simp only [inR]; omega) fun _ => ⟨⟨(i + 1, oo ++ (l.getD i pcz).text, (l.getD i pcz).glue, 0), by simp only; omega, by simp only [List.length_append]; omega, by simp only [Nat.succ_ne_zero, if_false]; exact hee⟩, by simp only; omega, (by (try simp only [Int.natCast_add, Int.natCast_one]); exact Ent.nil (by simp [entEnv, Vg.look, SV.mapH]))⟩
  · obtain rfl : i = l.length := by omega
    by_cases h0 : l.length = 0
    · rw [if_pos h0] at h3
      rw [h3.1, List.length_eq_zero_iff.1 h0]; rfl
    · rw [if_neg h0, List.drop_length] at h3
      rw [← h3]; simp [foldR]
noncomputable def pe_FoldFlow_s : PE := peR (fun (l : List Pc) => [.fs 2 (l.map pcc)]) (fun (l : List Pc) => pcW l ≤ 16777216) (fun (l : List Pc) => .s (foldT l))
theorem pe_FoldFlow_s_eq {l : List Pc} : pe_FoldFlow_s [.fs 2 (l.map pcc)] = some (pcW l ≤ 16777216, .s (foldT l)) := peR_eq (by rintro a b h; simp_all [pcc_inj]) l
theorem pe_FoldFlow_s_ok : PE1 Tryz.prog 77 pe_FoldFlow_s := peR_ok (by rintro l hp; exact FoldFlow_s l hp)
theorem Cut_s (b : List UInt8) (k : Int) (hp : b.length ≤ 16777216 ∧ 0 ≤ k) : PF Tryz.prog 95 [.fs 1 (b.map bytc), .i .i64 k] (.s (cutW k.toNat b)) := by
  refine ⟨rfl, rfl, FnK.of (cf := mkCf Tryz.prog te [] 34 0 false (fun _ => false) (kp [(0, [0, 1]), (1, [0, 1, 26]), (2, [0, 1]), (3, [4])]) [] []) (mkCf_ok te_ok (l := []) (trivial) mixed_ok) Tryz.func95 rfl rfl rfl (by simp [mkCf]) (by simp [mkCf]) (rs := [.tmp 4]) rfl 100000 ?_⟩
  simp only [↓XC, XV, XT, forall_const, implies_true, reduceIte, Nat.reduceAdd, Nat.reduceLT, Nat.reduceEqDiff, Nat.reduceBEq, Nat.reduceLeDiff, reduceCtorEq, Nat.reduceSub, Nat.reduceMul, Int.reduceToNat, Int.reduceLT, Int.reduceLE, TES, XRP]
  refine VLoops.of (ι := {x : Bs // cutW k.toNat x = cutW k.toNat b ∧ x.length ≤ b.length}) (fun x => ⟨[(0, .fs 1 (x.1.map bytc)), (1, .i .i64 k)], []⟩) (fun x => x.1.length) ⟨b, rfl, Nat.le_refl _⟩ (Ent.refl _ _) ?_
  rintro ⟨x, hx, hl⟩
  simp only [↓XC, XV, XT, forall_const, implies_true, reduceIte, Nat.reduceAdd, Nat.reduceLT, Nat.reduceEqDiff, Nat.reduceBEq, Nat.reduceLeDiff, reduceCtorEq, Nat.reduceSub, Nat.reduceMul, Int.reduceToNat, Int.reduceLT, Int.reduceLE, TES, XR]
  have e1 : ((x.length : Int) - 1).toNat = x.length - 1 := by omega
  rw [e1]
  have hX : (decide ((x.length : Int) > k) && (decide (((x.getD (x.length - 1) 0).toNat : Int) = 32) || decide (((x.getD (x.length - 1) 0).toNat : Int) = 9))) = decide (k.toNat < x.length ∧ (x.getD (x.length - 1) 0 = 32 ∨ x.getD (x.length - 1) 0 = 9)) := by
    have h1 := u8_eq (c := x.getD (x.length - 1) 0) (n := 32) (by decide)
    have h2 := u8_eq (c := x.getD (x.length - 1) 0) (n := 9) (by decide)
    simp only [Int.cast_ofNat_Int] at h1 h2
    rw [Bool.eq_iff_iff]
    simp only [Bool.and_eq_true, Bool.or_eq_true, decide_eq_true_eq, h1, h2]
    constructor
    · rintro ⟨a, b⟩; exact ⟨by omega, b⟩
    · rintro ⟨a, b⟩; exact ⟨by omega, b⟩
  rw [hX]
  refine Chk.mk (fun h => by simp only [inR]; omega) fun _ => Chk.mk (fun h => by omega) fun _ => Chk.mk (fun h => by simp only [inR]; omega) fun _ => Chk.mk (fun h => by simp only [Bool.or_eq_true, Bool.and_eq_true, Bool.or_eq_false_iff, Bool.and_eq_false_iff, decide_eq_true_eq, decide_eq_false_iff_not, Bool.not_eq_true', Bool.not_eq_false', beq_iff_eq, beq_eq_false_iff_ne, ne_eq, ge_iff_le, gt_iff_lt, Int.not_le, Int.not_lt, Int.ofNat_le, Int.ofNat_lt] at h; omega) fun _ => ⟨fun h => ?_, fun h => ?_⟩
  · have h := of_decide_eq_true h
    refine Chk.mk (by simp only [inR]; omega) fun _ => Chk.mk (by omega) fun _ => ⟨⟨x.take (x.length - 1), by rw [← cutW_t h]; exact hx, by rw [List.length_take]; omega⟩, by simp only [List.length_take]; omega, ?_⟩
    rw [← List.map_take]
    exact Ent.refl _ _
  · have h := of_decide_eq_false h
    refine Chk.mk (fun y hy => by obtain ⟨z, _, rfl⟩ := List.mem_map.1 hy; rfl) fun _ => ?_
    rw [fsBytes_bytc, ← hx, cutW_f h]
noncomputable def pe_Cut_s : PE := peR (fun (x : List UInt8 × Int) => match x with | (b, k) => [.fs 1 (b.map bytc), .i .i64 k]) (fun (x : List UInt8 × Int) => match x with | (b, k) => b.length ≤ 16777216 ∧ 0 ≤ k) (fun (x : List UInt8 × Int) => match x with | (b, k) => .s (cutW k.toNat b))
theorem pe_Cut_s_eq {b : List UInt8} {k : Int} : pe_Cut_s [.fs 1 (b.map bytc), .i .i64 k] = some (b.length ≤ 16777216 ∧ 0 ≤ k, .s (cutW k.toNat b)) := peR_eq (by rintro ⟨a0, a1⟩ ⟨b0, b1⟩ h; simp_all [bytc_inj']) (b, k)
theorem pe_Cut_s_ok : PE1 Tryz.prog 95 pe_Cut_s := peR_ok (by rintro ⟨b, k⟩ hp; exact Cut_s b k hp)
end Go.T62
