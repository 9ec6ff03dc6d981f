/- Own text: part FlowL. -/
import Derived.Test.YtkbcappnemjjnaaGreatBaseE
import Derived.Test.YtkbcappnemjjnaaGreatTypes2
import Derived.Test.YtkbcappnemjjnaaGreatTextA
import Derived.Test.YtkbcappnemjjnaaGreatEventA
import Derived.Test.YtkbcappnemjjnaaGreatLineA
import Derived.Test.YtkbcappnemjjnaaGreatRuneA
import Derived.Test.YtkbcappnemjjnaaGreatFoldA
import Derived.Test.YtkbcappnemjjnaaGreatQuotA
import Derived.Test.YtkbcappnemjjnaaGreatQuotB
import Derived.Test.YtkbcappnemjjnaaGreatFlowA
import Derived.Test.YtkbcappnemjjnaaGreatFlowB
import Derived.Test.YtkbcappnemjjnaaGreatFlowC
import Derived.Test.YtkbcappnemjjnaaGreatFlowJ
import Derived.Test.YtkbcappnemjjnaaGreatBaseF
set_option linter.unusedVariables false
set_option linter.unusedSimpArgs false
namespace Go.T82
open Go.Proofs Go.Vg Go.RowKit Go.TT Go.Pl Go.T8 Go.T12 Go.T60 Go.T61 Go.T62 Go.T63 Go.T64 Go.T70 Go.T71 Go.T72 Go.T80
set_option linter.unusedVariables false
set_option linter.unusedSimpArgs false
set_option maxRecDepth 10000
set_option maxHeartbeats 4000000
theorem sprops (s : Bs) (r : Rd) (pr : Int) (fl : Bool) (hp : s.length ≤ 1048576 ∧ r.cd = 0 ∧ r.pos ≤ s.length ∧ (r.hd.length ≤ 1048576 ∧ ∀ h ∈ r.hd, h.pre.length ≤ 1048576)) : FnK Tryz.prog 21 4 [.ptr 0 0 0, .b fl] [some (.blk false [.s s, .i .i64 ((r).pos : Nat), .slc 1 0 (r).ev.length, .i .i64 (r).cd, .i .i64 ((r).pl : Nat), .i .i64 ((r).dp : Nat), .slc 2 0 (nmS (r).ev (r).dn (r).bs).length, .slc 3 0 (r).hd.length, .i .i64 pr]), some (.row false 8 (r).ev.length (rowE evc evz (r).ev)), some (.row false 2 (nmS (r).ev (r).dn (r).bs).length (rowE nac ([], false) (nmS (r).ev (r).dn (r).bs))), some (.row false 2 (r).hd.length (rowE hdc hdz (r).hd))] (fun z c => ∃ (pr' : Int) (an tg : Bs) (ha : Bool), ((prZ s fl r).cd = 0 → pr' = (if (prP s fl r).has = true then ((prP s fl r).en : Int) else pr) ∧ an = (prP s fl r).an ∧ tg = (prP s fl r).tg ∧ ha = (prP s fl r).has) ∧ z = .tup [.agg [.i .i64 0, .i .i64 0, .b false, .s [], .s an, .s tg, .i .i64 0, .i .i64 0], .b ha] ∧ c = [some (.blk false [.s s, .i .i64 ((prZ s fl r).pos : Nat), .slc 1 0 (prZ s fl r).ev.length, .i .i64 (prZ s fl r).cd, .i .i64 ((prZ s fl r).pl : Nat), .i .i64 ((prZ s fl r).dp : Nat), .slc 2 0 (nmS (prZ s fl r).ev (prZ s fl r).dn (prZ s fl r).bs).length, .slc 3 0 (prZ s fl r).hd.length, .i .i64 pr']), some (.row false 8 (prZ s fl r).ev.length (rowE evc evz (prZ s fl r).ev)), some (.row false 2 (nmS (prZ s fl r).ev (prZ s fl r).dn (prZ s fl r).bs).length (rowE nac ([], false) (nmS (prZ s fl r).ev (prZ s fl r).dn (prZ s fl r).bs))), some (.row false 2 (prZ s fl r).hd.length (rowE hdc hdz (prZ s fl r).hd))]) := by
  refine FnK.ofQ (cf := mkCf Tryz.prog te [(38, pe_NameAt_s), (39, pe_TagAt_s), (40, pe_Gap_s), (41, pe_Flow_s), (42, pe_TagRead_s), (33, pe_White_s)] 161 4 false (fun i => i == 3) (kp [(0, [0, 1, 4]), (1, [0, 1, 4, 6]), (2, [0, 1, 4, 6, 7]), (3, [0, 1, 4, 6, 7, 30]), (4, [0, 1, 4, 6, 7, 8]), (5, [0, 1, 4, 6, 7, 8, 9, 10, 11]), (6, [0, 1, 4, 6, 7, 8, 9, 10, 11, 47]), (7, [0, 1, 4, 6, 7, 8, 9, 10, 11]), (8, [0, 1, 4, 6, 7, 8, 9, 10, 11, 12]), (9, [0, 1, 4, 6, 7, 8, 9, 10, 110]), (10, [4, 6, 7]), (11, [4, 5]), (12, [0, 1, 4, 6, 7, 8, 9, 10, 122]), (13, [0, 1, 4, 6, 10]), (14, [0, 1, 4, 6, 7, 8, 10, 13, 14]), (15, [0, 1, 4, 6, 7, 8, 10, 13, 135]), (16, [4, 6, 7]), (17, [4, 5]), (18, [0, 1, 4, 6, 10]), (19, [0, 1, 4, 6, 7, 10]), (20, [0, 1, 4, 6, 7, 10]), (21, [0, 1, 4, 6, 7]), (22, [0, 1, 4, 6, 7, 156]), (23, [0, 1, 4, 6, 7]), (24, [4, 5])]) [] []) (mkCf_ok te_ok (l := [(38, pe_NameAt_s), (39, pe_TagAt_s), (40, pe_Gap_s), (41, pe_Flow_s), (42, pe_TagRead_s), (33, pe_White_s)]) (⟨pe_NameAt_s_ok, pe_TagAt_s_ok, pe_Gap_s_ok, pe_Flow_s_ok, pe_TagRead_s_ok, pe_White_s_ok, trivial⟩) mixed_ok) Tryz.func21 rfl rfl rfl (by simp [mkCf]) (by simp [mkCf]) (rs := [.cell 4 47, .tmp 5]) rfl 100000 ?_
  simp only [↓XC, XV, XT, forall_const, implies_true, reduceIte, Nat.reduceAdd, Nat.reduceLT, Nat.reduceEqDiff, Nat.reduceBEq, Nat.reduceLeDiff, reduceCtorEq, Nat.reduceSub, Nat.reduceMul, Int.reduceToNat, Int.reduceLT, Int.reduceLE, TES, pe_NameAt_s_eq, pe_TagAt_s_eq, pe_Gap_s_eq, pe_Flow_s_eq, pe_TagRead_s_eq, pe_White_s_eq, XRE, XR, XRH, XRN, flt, atR, tellR, textR]
  obtain ⟨hs, hcd, hpos, hh1, hh2⟩ := hp
  refine VLoops.of (ι := {x : Rd × Pp // PrI s fl r x.1 x.2}) (fun x => ⟨[(0, .ptr 0 0 0), (1, .b fl), (4, .ptr 4 0 0), (6, .ptr 5 0 0), (7, .b x.1.2.has)], [some (.blk false [.s s, .i .i64 ((x.1.1).pos : Nat), .slc 1 0 (x.1.1).ev.length, .i .i64 (x.1.1).cd, .i .i64 ((x.1.1).pl : Nat), .i .i64 ((x.1.1).dp : Nat), .slc 2 0 (nmS (x.1.1).ev (x.1.1).dn (x.1.1).bs).length, .slc 3 0 (x.1.1).hd.length, .i .i64 (if x.1.2.has = true then (x.1.2.en : Int) else pr)]), some (.row false 8 (x.1.1).ev.length (rowE evc evz (x.1.1).ev)), some (.row false 2 (nmS (x.1.1).ev (x.1.1).dn (x.1.1).bs).length (rowE nac ([], false) (nmS (x.1.1).ev (x.1.1).dn (x.1.1).bs))), some (.row false 2 (x.1.1).hd.length (rowE hdc hdz (x.1.1).hd)), some (.blk false [.i .i64 0, .i .i64 0, .b false, .s [], .s [], .s [], .i .i64 0, .i .i64 0]), some (.blk false [.i .i64 0, .i .i64 0, .b false, .s [], .s x.1.2.an, .s x.1.2.tg, .i .i64 0, .i .i64 0])]⟩) (fun x => if x.1.1.cd = 0 then s.length + 1 - x.1.1.pos else 0) ⟨(r, ppz r.pos), .inl (prA_start hcd hpos)⟩ (Ent.refl _ _) ?_
  rintro ⟨⟨x, ⟨ha, an, tg, pe⟩⟩, hI⟩
  simp only [↓XC, XV, XT, forall_const, implies_true, reduceIte, Nat.reduceAdd, Nat.reduceLT, Nat.reduceEqDiff, Nat.reduceBEq, Nat.reduceLeDiff, reduceCtorEq, Nat.reduceSub, Nat.reduceMul, Int.reduceToNat, Int.reduceLT, Int.reduceLE, TES, XRE, XR, XRH, XRN, flt, atR, tellR, textR]
  by_cases hcx : x.cd = 0
  · have hA : PrA s fl r x ⟨ha, an, tg, pe⟩ := by
      rcases hI with h | h
      · exact h
      · exact absurd hcx h.1
    simp only [decide_eq_true hcx]
    simp only [↓XC, XV, XT, forall_const, implies_true, reduceIte, Nat.reduceAdd, Nat.reduceLT, Nat.reduceEqDiff, Nat.reduceBEq, Nat.reduceLeDiff, reduceCtorEq, Nat.reduceSub, Nat.reduceMul, Int.reduceToNat, Int.reduceLT, Int.reduceLE, TES, XRE, XR, XRH, XRN, flt, atR, tellR, textR, ↓xguard_on, ↓xguard_no, ↓xguard_g0, Bool.not_true, Bool.not_false]
    refine XCalls.mut (sbyte s x (if ha = true then (pe : Int) else pr) hs) rfl [0, 1, 2, 3] (by simp [mapHL, SV.mapH, muL]) (by simp only [ctxMap, at_cons_zero, at_cons_succ, and_true, List.length_cons, List.length_nil]; exact ⟨by omega, soLe_blk (by simp [mapHL, SV.mapH, muL, flt, atR, tellR, textR]), by omega, soLe_same fun _ => rfl, by omega, soLe_same fun _ => rfl, by omega, soLe_same fun _ => rfl⟩) (by decide) ?_
    simp only [↓XC, XV, XT, forall_const, implies_true, reduceIte, Nat.reduceAdd, Nat.reduceLT, Nat.reduceEqDiff, Nat.reduceBEq, Nat.reduceLeDiff, reduceCtorEq, Nat.reduceSub, Nat.reduceMul, Int.reduceToNat, Int.reduceLT, Int.reduceLE, TES, pe_NameAt_s_eq, pe_TagAt_s_eq, pe_Gap_s_eq, pe_Flow_s_eq, pe_TagRead_s_eq, pe_White_s_eq, XRE, XR, XRH, XRN, flt, atR, tellR, textR, ↓xguard_on, ↓xguard_no, ↓xguard_g0, Bool.not_true, Bool.not_false, XM]
    simp only [by0 (show (0 : Int) < 38 by decide)]
    by_cases h38 : byt s x.pos = 38
    · simp only [decide_eq_true h38]
      simp only [↓XC, XV, XT, forall_const, implies_true, reduceIte, Nat.reduceAdd, Nat.reduceLT, Nat.reduceEqDiff, Nat.reduceBEq, Nat.reduceLeDiff, reduceCtorEq, Nat.reduceSub, Nat.reduceMul, Int.reduceToNat, Int.reduceLT, Int.reduceLE, TES, pe_NameAt_s_eq, pe_TagAt_s_eq, pe_Gap_s_eq, pe_Flow_s_eq, pe_TagRead_s_eq, pe_White_s_eq, XRE, XR, XRH, XRN, flt, atR, tellR, textR, ↓xguard_on, ↓xguard_no, ↓xguard_g0, Bool.not_true, Bool.not_false]
      rw [spot_of s hA.pos]
      refine Chk.mk hs fun _ => ?_
      refine XCalls.mut (sbyte s x (if ha = true then (pe : Int) else pr) hs) rfl [0, 1, 2, 3] (by simp [mapHL, SV.mapH, muL]) (by simp only [ctxMap, at_cons_zero, at_cons_succ, and_true, List.length_cons, List.length_nil]; exact ⟨by omega, soLe_blk (by simp [mapHL, SV.mapH, muL, flt, atR, tellR, textR]), by omega, soLe_same fun _ => rfl, by omega, soLe_same fun _ => rfl, by omega, soLe_same fun _ => rfl⟩) (by decide) ?_
      simp only [↓XC, XV, XT, forall_const, implies_true, reduceIte, Nat.reduceAdd, Nat.reduceLT, Nat.reduceEqDiff, Nat.reduceBEq, Nat.reduceLeDiff, reduceCtorEq, Nat.reduceSub, Nat.reduceMul, Int.reduceToNat, Int.reduceLT, Int.reduceLE, TES, pe_NameAt_s_eq, pe_TagAt_s_eq, pe_Gap_s_eq, pe_Flow_s_eq, pe_TagRead_s_eq, pe_White_s_eq, XRE, XR, XRH, XRN, flt, atR, tellR, textR, ↓xguard_on, ↓xguard_no, ↓xguard_g0, Bool.not_true, Bool.not_false, XM]
      simp only [by0 (show (0 : Int) < 33 by decide)]
      have hi : isPr s x.pos = true := by unfold isPr; simp [h38]
      refine ⟨fun h33 => by omega, fun h33 => ?_⟩
      have hpl : x.pos < s.length := isPr_lt hi
      simp only [← byt_lt hpl, h38, decide_true, Bool.true_and, show decide ((38 : Int) = 33) = false from rfl, Bool.false_and, Bool.or_false]
      rw [bhd_ix]
      refine Chk.mk (by omega) fun _ => Chk.mk (fun _ => by omega) fun _ => Chk.mk (fun h => ⟨⟨h, h⟩, hs, by have := nmA_sign (s := s) (p := x.pos) (by simp at h; exact h.1); omega⟩) fun _ => Chk.mk (fun h => by
        have h9 := nmA_sign (s := s) (p := x.pos) (by simp at h; exact h.1.1.1)
        have := gap_not (s := s) (i := (nmA s x.pos).2.1.toNat) (by simp at h; exact h.1.2)
        omega) fun _ => ⟨fun hc => ?_, fun hc => Chk.mk (by omega) fun _ => ⟨fun _ => ?_, fun h => absurd trivial h⟩⟩
      · have hb : (prA s r.hd fl x.pos ⟨ha, an, tg, pe⟩).2 = 7 := by
          unfold prA; rw [if_pos h38]
          by_cases hO : (nmA s x.pos).2.2 = true ∧ an = []
          · rw [if_pos hO, if_neg (by simpa [hO.1, hO.2] using hc)]
          · rw [if_neg hO]
        have e := prA_bad hA hi hb (by decide)
        refine XCalls.mut (sfail s x (if ha = true then (pe : Int) else pr) 7 x.pos hcx) rfl [0, 1, 2, 3] (by simp [mapHL, SV.mapH, muL]) (by simp only [ctxMap, at_cons_zero, at_cons_succ, and_true, List.length_cons, List.length_nil]; exact ⟨by omega, soLe_blk (by simp [mapHL, SV.mapH, muL, flt, atR, tellR, textR]), by omega, soLe_same fun _ => rfl, by omega, soLe_same fun _ => rfl, by omega, soLe_same fun _ => rfl⟩) (by decide) ?_
        simp only [↓XC, XV, XT, forall_const, implies_true, reduceIte, Nat.reduceAdd, Nat.reduceLT, Nat.reduceEqDiff, Nat.reduceBEq, Nat.reduceLeDiff, reduceCtorEq, Nat.reduceSub, Nat.reduceMul, Int.reduceToNat, Int.reduceLT, Int.reduceLE, TES, XRE, XR, XRH, XRN, flt, atR, tellR, textR, XM]
        refine ⟨.tup [.agg [.i .i64 0, .i .i64 0, .b false, .s [], .s an, .s tg, .i .i64 0, .i .i64 0], .b ha], [some (.blk false [.s s, .i .i64 ((prZ s fl r).pos : Nat), .slc 1 0 (prZ s fl r).ev.length, .i .i64 (prZ s fl r).cd, .i .i64 ((prZ s fl r).pl : Nat), .i .i64 ((prZ s fl r).dp : Nat), .slc 2 0 (nmS (prZ s fl r).ev (prZ s fl r).dn (prZ s fl r).bs).length, .slc 3 0 (prZ s fl r).hd.length, .i .i64 (if ha = true then (pe : Int) else pr)]), some (.row false 8 (prZ s fl r).ev.length (rowE evc evz (prZ s fl r).ev)), some (.row false 2 (nmS (prZ s fl r).ev (prZ s fl r).dn (prZ s fl r).bs).length (rowE nac ([], false) (nmS (prZ s fl r).ev (prZ s fl r).dn (prZ s fl r).bs))), some (.row false 2 (prZ s fl r).hd.length (rowE hdc hdz (prZ s fl r).hd))], ⟨_, an, tg, ha, fun h => absurd h (by rw [e]; exact (by decide : ¬ ((7 : Int) = 0))), rfl, rfl⟩, ?_⟩
        rw [e]
        exact ⟨[0, 1, 2, 3], by decide, by simp only [entCtx, at_cons_zero, at_cons_succ, and_true, true_and]; exact ⟨soLe_blk (by simp [mapHL, SV.mapH, muL, flt, atR, tellR, textR]), soLe_same fun _ => rfl, soLe_same fun _ => rfl, soLe_same fun _ => rfl⟩, by simp only [↓XC, XV, XT, forall_const, implies_true, reduceIte, Nat.reduceAdd, Nat.reduceLT, Nat.reduceEqDiff, Nat.reduceBEq, Nat.reduceLeDiff, reduceCtorEq, Nat.reduceSub, Nat.reduceMul, Int.reduceToNat, Int.reduceLT, Int.reduceLE]; try first | rfl | simp [muL, SV.mapH, mapHL], by simp [newRw, SO.ro], by simp⟩
      · have hO : (nmA s x.pos).2.2 = true := by
          cases h : (nmA s x.pos).2.2 with
          | true => rfl
          | false => rw [h] at hc; simp at hc
        have hO2 : an = [] := by
          by_cases h : an = []
          · exact h
          · simp [h] at hc
        have hB : bhd s fl (nmA s x.pos).2.1.toNat = true := by
          cases h : bhd s fl (nmA s x.pos).2.1.toNat with
          | true => rfl
          | false => rw [h] at hc; simp at hc
        have hb : prA s r.hd fl x.pos ⟨ha, an, tg, pe⟩ = (⟨true, (nmA s x.pos).1, tg, (nmA s x.pos).2.1.toNat⟩, 0) := by unfold prA; rw [if_pos h38, if_pos ⟨hO, hO2⟩, if_pos hB]
        have hpc := nmA_sign hO
        have eN : spot s (nmA s x.pos).2.1 = (nmA s x.pos).2.1.toNat := by unfold spot; omega
        have eZ : ((nmA s x.pos).2.1.toNat : Int) = (nmA s x.pos).2.1 := by omega
        rw [eN]
        obtain ⟨h1, h2, h3, h4⟩ := prA_next hA hi hb
        simp only at h1 h2 h3 h4
        obtain ⟨k, hk⟩ : ∃ k : Nat, (nmA s x.pos).2.1 = (k : Int) := ⟨(nmA s x.pos).2.1.toNat, by omega⟩
        have hk2 : (nmA s x.pos).2.1.toNat = k := by omega
        rw [hk2] at h1 h2 h3 h4 ⊢
        rw [hk]
        have hw1 := wh_ge s k
        have hw2 := wh_le s k h2
        have hg1 := gpE_ge s k
        refine Chk.mk hs fun _ => ⟨fun hf => ?_, fun hf => ?_⟩
        · refine XCalls.mut (sgap s (atR x (wh s k)) (k : Nat) ⟨hs, hcx, hw2⟩) rfl [0, 1, 2, 3] (by simp [mapHL, SV.mapH, muL]) (by simp only [ctxMap, at_cons_zero, at_cons_succ, and_true, List.length_cons, List.length_nil]; exact ⟨by omega, soLe_blk (by simp [mapHL, SV.mapH, muL, flt, atR, tellR, textR]), by omega, soLe_same fun _ => rfl, by omega, soLe_same fun _ => rfl, by omega, soLe_same fun _ => rfl⟩) (by decide) ?_
          simp only [↓XC, XV, XT, forall_const, implies_true, reduceIte, Nat.reduceAdd, Nat.reduceLT, Nat.reduceEqDiff, Nat.reduceBEq, Nat.reduceLeDiff, reduceCtorEq, Nat.reduceSub, Nat.reduceMul, Int.reduceToNat, Int.reduceLT, Int.reduceLE, TES, XRE, XR, XRH, XRN, flt, atR, tellR, textR, XM]
          refine ⟨⟨(gapR s (atR x (wh s k)), (⟨true, (nmA s x.pos).1, tg, k⟩ : Pp)), (h4 hf).1⟩, ?_, ?_⟩
          · have := (h4 hf).2
            rw [if_pos hcx]
            simp only
            split <;> omega
          · exact (Ent.ren1 [0, 1, 2, 3, 4, 5] (by decide) (by simp only [entCtx, at_cons_zero, at_cons_succ, and_true, true_and]; exact ⟨soLe_blk (by simp [mapHL, SV.mapH, muL, flt, atR, tellR, textR]), soLe_same fun _ => rfl, soLe_same fun _ => rfl, soLe_same fun _ => rfl, soLe_blk (by simp [mapHL, SV.mapH, muL]), soLe_blk (by simp [mapHL, SV.mapH, muL])⟩) (by simp [entEnv, Vg.look, SV.mapH, muL, atR]))
        · refine ⟨⟨(atR x (wh s k), (⟨true, (nmA s x.pos).1, tg, k⟩ : Pp)), .inl (h3 hf)⟩, ?_, ?_⟩
          · have hc0 : (atR x (wh s k)).cd = 0 := hcx
            rw [if_pos hcx]
            show (if (atR x (wh s k)).cd = 0 then s.length + 1 - wh s k else 0) < _
            rw [if_pos hc0]
            omega
          · exact (Ent.ren1 [0, 1, 2, 3, 4, 5] (by decide) (by simp only [entCtx, at_cons_zero, at_cons_succ, and_true, true_and]; exact ⟨soLe_blk (by simp [mapHL, SV.mapH, muL, flt, atR, tellR, textR]), soLe_same fun _ => rfl, soLe_same fun _ => rfl, soLe_same fun _ => rfl, soLe_blk (by simp [mapHL, SV.mapH, muL]), soLe_blk (by simp [mapHL, SV.mapH, muL])⟩) (by simp [entEnv, Vg.look, SV.mapH, muL, atR]))
    · simp only [decide_eq_false h38]
      simp only [↓XC, XV, XT, forall_const, implies_true, reduceIte, Nat.reduceAdd, Nat.reduceLT, Nat.reduceEqDiff, Nat.reduceBEq, Nat.reduceLeDiff, reduceCtorEq, Nat.reduceSub, Nat.reduceMul, Int.reduceToNat, Int.reduceLT, Int.reduceLE, TES, pe_NameAt_s_eq, pe_TagAt_s_eq, pe_Gap_s_eq, pe_Flow_s_eq, pe_TagRead_s_eq, pe_White_s_eq, XRE, XR, XRH, XRN, flt, atR, tellR, textR, ↓xguard_on, ↓xguard_no, ↓xguard_g0, Bool.not_true, Bool.not_false]
      refine XCalls.mut (sbyte s x (if ha = true then (pe : Int) else pr) hs) rfl [0, 1, 2, 3] (by simp [mapHL, SV.mapH, muL]) (by simp only [ctxMap, at_cons_zero, at_cons_succ, and_true, List.length_cons, List.length_nil]; exact ⟨by omega, soLe_blk (by simp [mapHL, SV.mapH, muL, flt, atR, tellR, textR]), by omega, soLe_same fun _ => rfl, by omega, soLe_same fun _ => rfl, by omega, soLe_same fun _ => rfl⟩) (by decide) ?_
      simp only [↓XC, XV, XT, forall_const, implies_true, reduceIte, Nat.reduceAdd, Nat.reduceLT, Nat.reduceEqDiff, Nat.reduceBEq, Nat.reduceLeDiff, reduceCtorEq, Nat.reduceSub, Nat.reduceMul, Int.reduceToNat, Int.reduceLT, Int.reduceLE, TES, pe_NameAt_s_eq, pe_TagAt_s_eq, pe_Gap_s_eq, pe_Flow_s_eq, pe_TagRead_s_eq, pe_White_s_eq, XRE, XR, XRH, XRN, flt, atR, tellR, textR, ↓xguard_on, ↓xguard_no, ↓xguard_g0, Bool.not_true, Bool.not_false, XM]
      simp only [by0 (show (0 : Int) < 33 by decide)]
      refine ⟨fun h33 => ?_, fun h33 => ?_⟩
      · have hi : isPr s x.pos = true := by unfold isPr; simp [h33]
        rw [spot_of s hA.pos]
        refine Chk.mk hs fun _ => ?_
        refine XCalls.mut (sbyte s x (if ha = true then (pe : Int) else pr) hs) rfl [0, 1, 2, 3] (by simp [mapHL, SV.mapH, muL]) (by simp only [ctxMap, at_cons_zero, at_cons_succ, and_true, List.length_cons, List.length_nil]; exact ⟨by omega, soLe_blk (by simp [mapHL, SV.mapH, muL, flt, atR, tellR, textR]), by omega, soLe_same fun _ => rfl, by omega, soLe_same fun _ => rfl, by omega, soLe_same fun _ => rfl⟩) (by decide) ?_
        simp only [↓XC, XV, XT, forall_const, implies_true, reduceIte, Nat.reduceAdd, Nat.reduceLT, Nat.reduceEqDiff, Nat.reduceBEq, Nat.reduceLeDiff, reduceCtorEq, Nat.reduceSub, Nat.reduceMul, Int.reduceToNat, Int.reduceLT, Int.reduceLE, TES, pe_NameAt_s_eq, pe_TagAt_s_eq, pe_Gap_s_eq, pe_Flow_s_eq, pe_TagRead_s_eq, pe_White_s_eq, XRE, XR, XRH, XRN, flt, atR, tellR, textR, ↓xguard_on, ↓xguard_no, ↓xguard_g0, Bool.not_true, Bool.not_false, XM]
        simp only [by0 (show (0 : Int) < 33 by decide)]
        rw [spot_of s hA.pos]
        refine ⟨fun _ => Chk.mk hs fun _ => ?_, fun h => absurd h33 h⟩
        have hpl : x.pos < s.length := isPr_lt hi
        have hnn := tgA_nn s x.pos
        simp only [← byt_lt hpl, h33, show decide ((33 : Int) = 38) = false from rfl, decide_true, Bool.true_and, Bool.false_and, Bool.false_or]
        rw [bhd_ix]
        refine Chk.mk (by omega) fun _ => Chk.mk (fun _ => by omega) fun _ => Chk.mk (fun h => ⟨⟨h, h⟩, hs, hnn⟩) fun _ => Chk.mk (fun h => by
          have := gap_not (s := s) (i := (tgA s x.pos).2.1.toNat) (by simp at h; exact h.1.2)
          omega) fun _ => ⟨fun hc => ?_, fun hc => Chk.mk (by omega) fun _ => ⟨fun h => absurd h (by decide), fun _ => ?_⟩⟩
        · have hb : (prA s r.hd fl x.pos ⟨ha, an, tg, pe⟩).2 = 7 := by
            unfold prA; rw [if_neg h38, if_neg]
            rintro ⟨g1, g2, g3⟩
            have g2' : tg = [] := g2
            simp [g1, g2', g3] at hc
          have e := prA_bad hA hi hb (by decide)
          refine XCalls.mut (sfail s x (if ha = true then (pe : Int) else pr) 7 x.pos hcx) rfl [0, 1, 2, 3] (by simp [mapHL, SV.mapH, muL]) (by simp only [ctxMap, at_cons_zero, at_cons_succ, and_true, List.length_cons, List.length_nil]; exact ⟨by omega, soLe_blk (by simp [mapHL, SV.mapH, muL, flt, atR, tellR, textR]), by omega, soLe_same fun _ => rfl, by omega, soLe_same fun _ => rfl, by omega, soLe_same fun _ => rfl⟩) (by decide) ?_
          simp only [↓XC, XV, XT, forall_const, implies_true, reduceIte, Nat.reduceAdd, Nat.reduceLT, Nat.reduceEqDiff, Nat.reduceBEq, Nat.reduceLeDiff, reduceCtorEq, Nat.reduceSub, Nat.reduceMul, Int.reduceToNat, Int.reduceLT, Int.reduceLE, TES, XRE, XR, XRH, XRN, flt, atR, tellR, textR, XM]
          refine ⟨.tup [.agg [.i .i64 0, .i .i64 0, .b false, .s [], .s an, .s tg, .i .i64 0, .i .i64 0], .b ha], [some (.blk false [.s s, .i .i64 ((prZ s fl r).pos : Nat), .slc 1 0 (prZ s fl r).ev.length, .i .i64 (prZ s fl r).cd, .i .i64 ((prZ s fl r).pl : Nat), .i .i64 ((prZ s fl r).dp : Nat), .slc 2 0 (nmS (prZ s fl r).ev (prZ s fl r).dn (prZ s fl r).bs).length, .slc 3 0 (prZ s fl r).hd.length, .i .i64 (if ha = true then (pe : Int) else pr)]), some (.row false 8 (prZ s fl r).ev.length (rowE evc evz (prZ s fl r).ev)), some (.row false 2 (nmS (prZ s fl r).ev (prZ s fl r).dn (prZ s fl r).bs).length (rowE nac ([], false) (nmS (prZ s fl r).ev (prZ s fl r).dn (prZ s fl r).bs))), some (.row false 2 (prZ s fl r).hd.length (rowE hdc hdz (prZ s fl r).hd))], ⟨_, an, tg, ha, fun h => absurd h (by rw [e]; exact (by decide : ¬ ((7 : Int) = 0))), rfl, rfl⟩, ?_⟩
          rw [e]
          exact ⟨[0, 1, 2, 3], by decide, by simp only [entCtx, at_cons_zero, at_cons_succ, and_true, true_and]; exact ⟨soLe_blk (by simp [mapHL, SV.mapH, muL, flt, atR, tellR, textR]), soLe_same fun _ => rfl, soLe_same fun _ => rfl, soLe_same fun _ => rfl⟩, by simp only [↓XC, XV, XT, forall_const, implies_true, reduceIte, Nat.reduceAdd, Nat.reduceLT, Nat.reduceEqDiff, Nat.reduceBEq, Nat.reduceLeDiff, reduceCtorEq, Nat.reduceSub, Nat.reduceMul, Int.reduceToNat, Int.reduceLT, Int.reduceLE]; try first | rfl | simp [muL, SV.mapH, mapHL], by simp [newRw, SO.ro], by simp⟩
        · have hO : (tgA s x.pos).2.2 = true := by
            cases h : (tgA s x.pos).2.2 with
            | true => rfl
            | false => rw [h] at hc; simp at hc
          have hO2 : tg = [] := by
            by_cases h : tg = []
            · exact h
            · simp [h] at hc
          have hB : bhd s fl (tgA s x.pos).2.1.toNat = true := by
            cases h : bhd s fl (tgA s x.pos).2.1.toNat with
            | true => rfl
            | false => rw [h] at hc; simp at hc
          have hlt := tgA_len s x.pos
          have eN : spot s (tgA s x.pos).2.1 = (tgA s x.pos).2.1.toNat := by have := tgA_place hO; unfold spot; omega
          have eZ : ((tgA s x.pos).2.1.toNat : Int) = (tgA s x.pos).2.1 := by omega
          have hh : x.hd = r.hd := by rw [hA.at']; rfl
          rw [show rowList (fun i => [SV.s (x.hd.getD i hdz).name, SV.s (x.hd.getD i hdz).pre]) 0 x.hd.length = x.hd.map hdc from rowE_list (enc := hdc) (z := hdz) (xs := x.hd) rfl]
          simp only [↓XC, XV, XT, forall_const, implies_true, reduceIte, Nat.reduceAdd, Nat.reduceLT, Nat.reduceEqDiff, Nat.reduceBEq, Nat.reduceLeDiff, reduceCtorEq, Nat.reduceSub, Nat.reduceMul, Int.reduceToNat, Int.reduceLT, Int.reduceLE, TES, pe_NameAt_s_eq, pe_TagAt_s_eq, pe_Gap_s_eq, pe_Flow_s_eq, pe_TagRead_s_eq, pe_White_s_eq, XRE, XR, XRH, XRN, flt, atR, tellR, textR, ↓xguard_on, ↓xguard_no, ↓xguard_g0, Bool.not_true, Bool.not_false]
          refine Chk.mk ⟨Nat.le_refl _, by omega, by rw [hh]; exact hh1, by rw [hh]; exact hh2⟩ fun _ => ⟨fun hc => ?_, fun hc => ?_⟩
          · have hb : (prA s r.hd fl x.pos ⟨ha, an, tg, pe⟩).2 = 15 := by unfold prA; rw [← hh, if_neg h38, if_pos ⟨hO, hO2, hB⟩, if_neg (by simpa using hc)]
            have e := prA_bad hA hi hb (by decide)
            refine XCalls.mut (sfail s x (if ha = true then (pe : Int) else pr) 15 x.pos hcx) rfl [0, 1, 2, 3] (by simp [mapHL, SV.mapH, muL]) (by simp only [ctxMap, at_cons_zero, at_cons_succ, and_true, List.length_cons, List.length_nil]; exact ⟨by omega, soLe_blk (by simp [mapHL, SV.mapH, muL, flt, atR, tellR, textR]), by omega, soLe_same fun _ => rfl, by omega, soLe_same fun _ => rfl, by omega, soLe_same fun _ => rfl⟩) (by decide) ?_
            simp only [↓XC, XV, XT, forall_const, implies_true, reduceIte, Nat.reduceAdd, Nat.reduceLT, Nat.reduceEqDiff, Nat.reduceBEq, Nat.reduceLeDiff, reduceCtorEq, Nat.reduceSub, Nat.reduceMul, Int.reduceToNat, Int.reduceLT, Int.reduceLE, TES, XRE, XR, XRH, XRN, flt, atR, tellR, textR, XM]
            refine ⟨.tup [.agg [.i .i64 0, .i .i64 0, .b false, .s [], .s an, .s tg, .i .i64 0, .i .i64 0], .b ha], [some (.blk false [.s s, .i .i64 ((prZ s fl r).pos : Nat), .slc 1 0 (prZ s fl r).ev.length, .i .i64 (prZ s fl r).cd, .i .i64 ((prZ s fl r).pl : Nat), .i .i64 ((prZ s fl r).dp : Nat), .slc 2 0 (nmS (prZ s fl r).ev (prZ s fl r).dn (prZ s fl r).bs).length, .slc 3 0 (prZ s fl r).hd.length, .i .i64 (if ha = true then (pe : Int) else pr)]), some (.row false 8 (prZ s fl r).ev.length (rowE evc evz (prZ s fl r).ev)), some (.row false 2 (nmS (prZ s fl r).ev (prZ s fl r).dn (prZ s fl r).bs).length (rowE nac ([], false) (nmS (prZ s fl r).ev (prZ s fl r).dn (prZ s fl r).bs))), some (.row false 2 (prZ s fl r).hd.length (rowE hdc hdz (prZ s fl r).hd))], ⟨_, an, tg, ha, fun h => absurd h (by rw [e]; exact (by decide : ¬ ((15 : Int) = 0))), rfl, rfl⟩, ?_⟩
            rw [e]
            exact ⟨[0, 1, 2, 3], by decide, by simp only [entCtx, at_cons_zero, at_cons_succ, and_true, true_and]; exact ⟨soLe_blk (by simp [mapHL, SV.mapH, muL, flt, atR, tellR, textR]), soLe_same fun _ => rfl, soLe_same fun _ => rfl, soLe_same fun _ => rfl⟩, by simp only [↓XC, XV, XT, forall_const, implies_true, reduceIte, Nat.reduceAdd, Nat.reduceLT, Nat.reduceEqDiff, Nat.reduceBEq, Nat.reduceLeDiff, reduceCtorEq, Nat.reduceSub, Nat.reduceMul, Int.reduceToNat, Int.reduceLT, Int.reduceLE]; try first | rfl | simp [muL, SV.mapH, mapHL], by simp [newRw, SO.ro], by simp⟩
          · have hb : prA s r.hd fl x.pos ⟨ha, an, tg, pe⟩ = (⟨true, an, (trA (tgA s x.pos).1 x.hd).1, (tgA s x.pos).2.1.toNat⟩, 0) := by unfold prA; rw [← hh, if_neg h38, if_pos ⟨hO, hO2, hB⟩, if_pos (by simpa using hc)]
            try rw [eN]
            obtain ⟨h1, h2, h3, h4⟩ := prA_next hA hi hb
            simp only at h1 h2 h3 h4
            obtain ⟨k, hk⟩ : ∃ k : Nat, (tgA s x.pos).2.1 = (k : Int) := ⟨(tgA s x.pos).2.1.toNat, by omega⟩
            have hk2 : (tgA s x.pos).2.1.toNat = k := by omega
            rw [hk2] at h1 h2 h3 h4 ⊢
            rw [hk]
            have hw1 := wh_ge s k
            have hw2 := wh_le s k h2
            have hg1 := gpE_ge s k
            refine Chk.mk hs fun _ => ⟨fun hf => ?_, fun hf => ?_⟩
            · refine XCalls.mut (sgap s (atR x (wh s k)) (k : Nat) ⟨hs, hcx, hw2⟩) rfl [0, 1, 2, 3] (by simp [mapHL, SV.mapH, muL]) (by simp only [ctxMap, at_cons_zero, at_cons_succ, and_true, List.length_cons, List.length_nil]; exact ⟨by omega, soLe_blk (by simp [mapHL, SV.mapH, muL, flt, atR, tellR, textR]), by omega, soLe_same fun _ => rfl, by omega, soLe_same fun _ => rfl, by omega, soLe_same fun _ => rfl⟩) (by decide) ?_
              simp only [↓XC, XV, XT, forall_const, implies_true, reduceIte, Nat.reduceAdd, Nat.reduceLT, Nat.reduceEqDiff, Nat.reduceBEq, Nat.reduceLeDiff, reduceCtorEq, Nat.reduceSub, Nat.reduceMul, Int.reduceToNat, Int.reduceLT, Int.reduceLE, TES, XRE, XR, XRH, XRN, flt, atR, tellR, textR, XM]
              refine ⟨⟨(gapR s (atR x (wh s k)), (⟨true, an, (trA (tgA s x.pos).1 x.hd).1, k⟩ : Pp)), (h4 hf).1⟩, ?_, ?_⟩
              · have := (h4 hf).2
                rw [if_pos hcx]
                simp only
                split <;> omega
              · exact (Ent.ren1 [0, 1, 2, 3, 4, 5] (by decide) (by simp only [entCtx, at_cons_zero, at_cons_succ, and_true, true_and]; exact ⟨soLe_blk (by simp [mapHL, SV.mapH, muL, flt, atR, tellR, textR]), soLe_same fun _ => rfl, soLe_same fun _ => rfl, soLe_same fun _ => rfl, soLe_blk (by simp [mapHL, SV.mapH, muL]), soLe_blk (by simp [mapHL, SV.mapH, muL])⟩) (by simp [entEnv, Vg.look, SV.mapH, muL, atR]))
            · refine ⟨⟨(atR x (wh s k), (⟨true, an, (trA (tgA s x.pos).1 x.hd).1, k⟩ : Pp)), .inl (h3 hf)⟩, ?_, ?_⟩
              · have hc0 : (atR x (wh s k)).cd = 0 := hcx
                rw [if_pos hcx]
                show (if (atR x (wh s k)).cd = 0 then s.length + 1 - wh s k else 0) < _
                rw [if_pos hc0]
                omega
              · exact (Ent.ren1 [0, 1, 2, 3, 4, 5] (by decide) (by simp only [entCtx, at_cons_zero, at_cons_succ, and_true, true_and]; exact ⟨soLe_blk (by simp [mapHL, SV.mapH, muL, flt, atR, tellR, textR]), soLe_same fun _ => rfl, soLe_same fun _ => rfl, soLe_same fun _ => rfl, soLe_blk (by simp [mapHL, SV.mapH, muL]), soLe_blk (by simp [mapHL, SV.mapH, muL])⟩) (by simp [entEnv, Vg.look, SV.mapH, muL, atR]))
      · obtain ⟨e, e2⟩ := prA_end hA (show isPr s x.pos = false by unfold isPr; simp [h38, h33])
        refine ⟨.tup [.agg [.i .i64 0, .i .i64 0, .b false, .s [], .s an, .s tg, .i .i64 0, .i .i64 0], .b ha], [some (.blk false [.s s, .i .i64 ((prZ s fl r).pos : Nat), .slc 1 0 (prZ s fl r).ev.length, .i .i64 (prZ s fl r).cd, .i .i64 ((prZ s fl r).pl : Nat), .i .i64 ((prZ s fl r).dp : Nat), .slc 2 0 (nmS (prZ s fl r).ev (prZ s fl r).dn (prZ s fl r).bs).length, .slc 3 0 (prZ s fl r).hd.length, .i .i64 (if ha = true then (pe : Int) else pr)]), some (.row false 8 (prZ s fl r).ev.length (rowE evc evz (prZ s fl r).ev)), some (.row false 2 (nmS (prZ s fl r).ev (prZ s fl r).dn (prZ s fl r).bs).length (rowE nac ([], false) (nmS (prZ s fl r).ev (prZ s fl r).dn (prZ s fl r).bs))), some (.row false 2 (prZ s fl r).hd.length (rowE hdc hdz (prZ s fl r).hd))], ⟨_, an, tg, ha, fun h => by rw [e2]; exact ⟨rfl, rfl, rfl, rfl⟩, rfl, rfl⟩, ?_⟩
        rw [e]
        exact ⟨[0, 1, 2, 3], by decide, by simp only [entCtx, at_cons_zero, at_cons_succ, and_true, true_and]; exact ⟨soLe_blk (by simp [mapHL, SV.mapH, muL, flt, atR, tellR, textR]), soLe_same fun _ => rfl, soLe_same fun _ => rfl, soLe_same fun _ => rfl⟩, by simp only [↓XC, XV, XT, forall_const, implies_true, reduceIte, Nat.reduceAdd, Nat.reduceLT, Nat.reduceEqDiff, Nat.reduceBEq, Nat.reduceLeDiff, reduceCtorEq, Nat.reduceSub, Nat.reduceMul, Int.reduceToNat, Int.reduceLT, Int.reduceLE]; try first | rfl | simp [muL, SV.mapH, mapHL], by simp [newRw, SO.ro], by simp⟩
  · simp only [decide_eq_false hcx]
    simp only [↓XC, XV, XT, forall_const, implies_true, reduceIte, Nat.reduceAdd, Nat.reduceLT, Nat.reduceEqDiff, Nat.reduceBEq, Nat.reduceLeDiff, reduceCtorEq, Nat.reduceSub, Nat.reduceMul, Int.reduceToNat, Int.reduceLT, Int.reduceLE, TES, pe_NameAt_s_eq, pe_TagAt_s_eq, pe_Gap_s_eq, pe_Flow_s_eq, pe_TagRead_s_eq, pe_White_s_eq, XRE, XR, XRH, XRN, flt, atR, tellR, textR, ↓xguard_on, ↓xguard_no, ↓xguard_g0, Bool.not_true, Bool.not_false]
    have e : prZ s fl r = x := by
      rcases hI with h | h
      · exact absurd h.cd hcx
      · exact h.2.symm
    refine ⟨.tup [.agg [.i .i64 0, .i .i64 0, .b false, .s [], .s an, .s tg, .i .i64 0, .i .i64 0], .b ha], [some (.blk false [.s s, .i .i64 ((prZ s fl r).pos : Nat), .slc 1 0 (prZ s fl r).ev.length, .i .i64 (prZ s fl r).cd, .i .i64 ((prZ s fl r).pl : Nat), .i .i64 ((prZ s fl r).dp : Nat), .slc 2 0 (nmS (prZ s fl r).ev (prZ s fl r).dn (prZ s fl r).bs).length, .slc 3 0 (prZ s fl r).hd.length, .i .i64 (if ha = true then (pe : Int) else pr)]), some (.row false 8 (prZ s fl r).ev.length (rowE evc evz (prZ s fl r).ev)), some (.row false 2 (nmS (prZ s fl r).ev (prZ s fl r).dn (prZ s fl r).bs).length (rowE nac ([], false) (nmS (prZ s fl r).ev (prZ s fl r).dn (prZ s fl r).bs))), some (.row false 2 (prZ s fl r).hd.length (rowE hdc hdz (prZ s fl r).hd))], ⟨_, an, tg, ha, fun h => absurd h (by rw [e]; exact hcx), rfl, rfl⟩, ?_⟩
    rw [e]
    exact ⟨[0, 1, 2, 3], by decide, by simp only [entCtx, at_cons_zero, at_cons_succ, and_true, true_and]; exact ⟨soLe_blk (by simp [mapHL, SV.mapH, muL, flt, atR, tellR, textR]), soLe_same fun _ => rfl, soLe_same fun _ => rfl, soLe_same fun _ => rfl⟩, by simp only [↓XC, XV, XT, forall_const, implies_true, reduceIte, Nat.reduceAdd, Nat.reduceLT, Nat.reduceEqDiff, Nat.reduceBEq, Nat.reduceLeDiff, reduceCtorEq, Nat.reduceSub, Nat.reduceMul, Int.reduceToNat, Int.reduceLT, Int.reduceLE]; try first | rfl | simp [muL, SV.mapH, mapHL], by simp [newRw, SO.ro], by simp⟩
end Go.T82
