/- Own text: part FlowE. -/
import Derived.Test.YtkbcappnemjjnaaGreatBaseE
import Derived.Test.YtkbcappnemjjnaaGreatTypes2
import Derived.Test.YtkbcappnemjjnaaGreatTextA
import Derived.Test.YtkbcappnemjjnaaGreatEventA
import Derived.Test.YtkbcappnemjjnaaGreatLineA
import Derived.Test.YtkbcappnemjjnaaGreatRuneA
import Derived.Test.YtkbcappnemjjnaaGreatFoldA
import Derived.Test.YtkbcappnemjjnaaGreatQuotA
import Derived.Test.YtkbcappnemjjnaaGreatQuotB
import Derived.Test.YtkbcappnemjjnaaGreatFlowA
import Derived.Test.YtkbcappnemjjnaaGreatFlowB
import Derived.Test.YtkbcappnemjjnaaGreatFlowC
import Derived.Test.YtkbcappnemjjnaaGreatFlowD
import Derived.Test.YtkbcappnemjjnaaGreatBaseF
set_option linter.unusedVariables false
set_option linter.unusedSimpArgs false
namespace Go.T74
open Go.Proofs Go.Vg Go.RowKit Go.TT Go.Pl Go.T8 Go.T12 Go.T60 Go.T61 Go.T62 Go.T63 Go.T64 Go.T70 Go.T71 Go.T72 Go.T73
set_option linter.unusedVariables false
set_option linter.unusedSimpArgs false
set_option maxRecDepth 10000
set_option maxHeartbeats 4000000
theorem rtext (s : Bs) (r : Rd) (fr : Bool) (la : Int) (st : Int) (t : Bs) (ha : Bool) (an tg : Bs) (pf : Int) (pe : Nat) (hp : r.ev.length ≤ 16777216 ∧ r.dn.length = r.ev.length ∧ r.bs ≤ r.ev.length) : FnK Tryz.prog 65 1 [.ptr 0 0 0, .i .i64 st, .s t, .agg [.b ha, .s an, .s tg, .i .i64 pf, .i .i64 (pe : Nat)]] [some (.blk false [.s s, .i .i64 ((r).pos : Nat), .slc 1 0 (r).ev.length, .slc 2 0 (r).ev.length, .mp 3, .slc 4 0 (r).hd.length, .i .i64 ((r).dp : Nat), .i .i64 (r).cd, .i .i64 ((r).pl : Nat), .b fr, .i .i64 la]), some (.row false 8 (r).ev.length (rowE evc evz (r).ev)), some (.row false 1 (r).ev.length (rowE booc false (r).dn)), some (.mapS (nmI (r).ev (r).bs)), some (.row false 2 (r).hd.length (rowE hdc hdz (r).hd))] (fun z c => z = .tup [] ∧ c = [some (.blk false [.s s, .i .i64 ((textR r st t an tg).pos : Nat), .slc 1 0 (textR r st t an tg).ev.length, .slc 2 0 (textR r st t an tg).ev.length, .mp 3, .slc 4 0 (textR r st t an tg).hd.length, .i .i64 ((textR r st t an tg).dp : Nat), .i .i64 (textR r st t an tg).cd, .i .i64 ((textR r st t an tg).pl : Nat), .b fr, .i .i64 la]), some (.row false 8 (textR r st t an tg).ev.length (rowE evc evz (textR r st t an tg).ev)), some (.row false 1 (textR r st t an tg).ev.length (rowE booc false (textR r st t an tg).dn)), some (.mapS (nmI (textR r st t an tg).ev (textR r st t an tg).bs)), some (.row false 2 (textR r st t an tg).hd.length (rowE hdc hdz (textR r st t an tg).hd))]) := by
  refine FnK.ofE (cf := mkCf Tryz.prog te [] 17 1 false (fun _ => false) (kp [(0, [0, 1, 2, 7]), (1, [])]) [] []) (mkCf_ok te_ok (l := []) (trivial) mixed_ok) Tryz.func65 rfl rfl rfl (by simp [mkCf]) (by simp [mkCf]) (rs := []) rfl 100000 ?_
  simp only [↓XC, XV, XT, forall_const, implies_true, reduceIte, Nat.reduceAdd, Nat.reduceLT, Nat.reduceEqDiff, Nat.reduceBEq, Nat.reduceLeDiff, reduceCtorEq, Nat.reduceSub, Nat.reduceMul, Int.reduceToNat, Int.reduceLT, Int.reduceLE, TES, XRE, XR, XRH, flt, atR, tellR, textR, evT]
  refine XCalls.reb (rtell s r fr la 5 st false t an tg 0 0 hp) [0, 1, 2, 3, 4] (by simp [mapHL, SV.mapH, muL]) (by simp only [ctxMap, at_cons_zero, at_cons_succ, and_true, List.length_cons, List.length_nil]; exact ⟨by omega, soLe_blk (by simp [mapHL, SV.mapH, muL, flt, atR, tellR, textR]), by omega, soLe_same fun _ => rfl, by omega, soLe_same fun _ => rfl, by omega, soLe_map, by omega, soLe_same fun _ => rfl⟩) (by decide) (by simp [newRw, SO.ro]) (by decide) (by simp [cleanC, upds, cleanO, noHL, noH, SO.ro, litEl]) ?_
  simp only [↓XC, XV, XT, forall_const, implies_true, reduceIte, Nat.reduceAdd, Nat.reduceLT, Nat.reduceEqDiff, Nat.reduceBEq, Nat.reduceLeDiff, reduceCtorEq, Nat.reduceSub, Nat.reduceMul, Int.reduceToNat, Int.reduceLT, Int.reduceLE, TES, XRE, XR, XRH, flt, atR, tellR, textR, XM]
  exact ⟨[0, 1, 2, 3, 4], by decide, by simp only [entCtx, at_cons_zero, at_cons_succ, and_true, true_and]; exact ⟨soLe_blk (by simp [mapHL, SV.mapH, muL]), soLe_same fun _ => rfl, soLe_same fun _ => rfl, soLe_map, soLe_same fun _ => rfl⟩, by simp only [↓XC, XV, XT, forall_const, implies_true, reduceIte, Nat.reduceAdd, Nat.reduceLT, Nat.reduceEqDiff, Nat.reduceBEq, Nat.reduceLeDiff, reduceCtorEq, Nat.reduceSub, Nat.reduceMul, Int.reduceToNat, Int.reduceLT, Int.reduceLE]; try first | rfl | simp [muL, SV.mapH, mapHL], by simp [newRw, SO.ro], by simp⟩
theorem rproperty (s : Bs) (r : Rd) (fr : Bool) (la : Int) (fl : Bool) (ha : Bool) (an tg : Bs) (pf : Int) (pe : Nat) (hp : s.length ≤ 1048576 ∧ r.cd = 0 ∧ r.pos ≤ s.length ∧ isPr s r.pos = true ∧ (r.hd.length ≤ 1048576 ∧ ∀ h ∈ r.hd, h.pre.length ≤ 1048576)) : FnK Tryz.prog 57 6 [.ptr 0 0 0, .ptr 5 0 0, .b fl] [some (.blk false [.s s, .i .i64 ((r).pos : Nat), .slc 1 0 (r).ev.length, .slc 2 0 (r).ev.length, .mp 3, .slc 4 0 (r).hd.length, .i .i64 ((r).dp : Nat), .i .i64 (r).cd, .i .i64 ((r).pl : Nat), .b fr, .i .i64 la]), some (.row false 8 (r).ev.length (rowE evc evz (r).ev)), some (.row false 1 (r).ev.length (rowE booc false (r).dn)), some (.mapS (nmI (r).ev (r).bs)), some (.row false 2 (r).hd.length (rowE hdc hdz (r).hd)), some (.blk false [.b ((⟨ha, an, tg, pe⟩ : Pp)).has, .s ((⟨ha, an, tg, pe⟩ : Pp)).an, .s ((⟨ha, an, tg, pe⟩ : Pp)).tg, .i .i64 pf, .i .i64 (((⟨ha, an, tg, pe⟩ : Pp)).en : Nat)])] (fun z c => z = .b (decide ((pr1 s fl r (⟨ha, an, tg, pe⟩ : Pp)).cd = 0)) ∧ c = [some (.blk false [.s s, .i .i64 ((pr1 s fl r (⟨ha, an, tg, pe⟩ : Pp)).pos : Nat), .slc 1 0 (pr1 s fl r (⟨ha, an, tg, pe⟩ : Pp)).ev.length, .slc 2 0 (pr1 s fl r (⟨ha, an, tg, pe⟩ : Pp)).ev.length, .mp 3, .slc 4 0 (pr1 s fl r (⟨ha, an, tg, pe⟩ : Pp)).hd.length, .i .i64 ((pr1 s fl r (⟨ha, an, tg, pe⟩ : Pp)).dp : Nat), .i .i64 (pr1 s fl r (⟨ha, an, tg, pe⟩ : Pp)).cd, .i .i64 ((pr1 s fl r (⟨ha, an, tg, pe⟩ : Pp)).pl : Nat), .b fr, .i .i64 la]), some (.row false 8 (pr1 s fl r (⟨ha, an, tg, pe⟩ : Pp)).ev.length (rowE evc evz (pr1 s fl r (⟨ha, an, tg, pe⟩ : Pp)).ev)), some (.row false 1 (pr1 s fl r (⟨ha, an, tg, pe⟩ : Pp)).ev.length (rowE booc false (pr1 s fl r (⟨ha, an, tg, pe⟩ : Pp)).dn)), some (.mapS (nmI (pr1 s fl r (⟨ha, an, tg, pe⟩ : Pp)).ev (pr1 s fl r (⟨ha, an, tg, pe⟩ : Pp)).bs)), some (.row false 2 (pr1 s fl r (⟨ha, an, tg, pe⟩ : Pp)).hd.length (rowE hdc hdz (pr1 s fl r (⟨ha, an, tg, pe⟩ : Pp)).hd)), some (.blk false [.b ((prA s r.hd fl r.pos (⟨ha, an, tg, pe⟩ : Pp)).1).has, .s ((prA s r.hd fl r.pos (⟨ha, an, tg, pe⟩ : Pp)).1).an, .s ((prA s r.hd fl r.pos (⟨ha, an, tg, pe⟩ : Pp)).1).tg, .i .i64 pf, .i .i64 (((prA s r.hd fl r.pos (⟨ha, an, tg, pe⟩ : Pp)).1).en : Nat)])]) := by
  refine FnK.ofE (cf := mkCf Tryz.prog te [(81, pe_NameAt_i), (82, pe_TagAt_i), (80, pe_gapAt), (51, pe_byteAt), (83, pe_isFlow), (84, pe_TagRead_i), (85, pe_White_i), (29, pe_Gap_i)] 183 6 false (fun _ => false) (kp [(0, [0, 1, 2]), (1, [0, 1, 2]), (2, [0, 1, 2, 25]), (3, [0, 1, 2, 8, 9, 10]), (4, [0, 1, 2, 8, 9, 47]), (5, [6]), (6, [0, 1, 2, 7]), (7, [0, 1, 2, 11, 12, 13]), (8, [0, 1, 2, 11, 12, 102]), (9, [6]), (10, [0, 1, 2, 12, 14, 15]), (11, [0, 1, 2, 12, 14, 119]), (12, [6]), (13, [0, 1, 2, 7]), (14, [0, 1, 2, 7, 150]), (15, [6]), (16, [0, 1, 2, 7]), (17, [0, 2, 7]), (18, [0, 2, 7]), (19, [0, 7, 173]), (20, []), (21, [6])]) [] [(2, [], [], .q1 0 (.q1 1 (.q1 2 (.q1 4 (.q1 5 (.q1 6 (.q0 3 [3] (.q0 7 [7] (.q1 8 (.q1 9 (.fin))))))))))), (3, [], [], .q1 0 (.q1 1 (.q1 2 (.q1 4 (.q1 5 (.q1 6 (.q0 3 [3] (.q0 7 [7] (.alt 8 (.q1 9 (.q1 10 (.q1 11 (.q1 12 (.q1 13 (.q1 14 (.q1 15 (.fin)))))))) (.fin)))))))))), (7, [], [], .q1 0 (.q1 1 (.q1 2 (.q1 4 (.q1 5 (.q1 6 (.q0 3 [3] (.q0 7 [7] (.alt 8 (.q1 9 (.q1 10 (.q1 11 (.q1 12 (.q1 13 (.q1 14 (.q1 15 (.fin)))))))) (.fin))))))))))]) (mkCf_ok te_ok (l := [(81, pe_NameAt_i), (82, pe_TagAt_i), (80, pe_gapAt), (51, pe_byteAt), (83, pe_isFlow), (84, pe_TagRead_i), (85, pe_White_i), (29, pe_Gap_i)]) (⟨pe_NameAt_i_ok, pe_TagAt_i_ok, pe_gapAt_ok, pe_byteAt_ok, pe_isFlow_ok, pe_TagRead_i_ok, pe_White_i_ok, pe_Gap_i_ok, trivial⟩) mixed_ok) Tryz.func57 rfl rfl rfl (by simp [mkCf]) (by simp [mkCf]) (rs := [.tmp 6]) rfl 100000 ?_
  simp only [↓XC, XV, XT, forall_const, implies_true, reduceIte, Nat.reduceAdd, Nat.reduceLT, Nat.reduceEqDiff, Nat.reduceBEq, Nat.reduceLeDiff, reduceCtorEq, Nat.reduceSub, Nat.reduceMul, Int.reduceToNat, Int.reduceLT, Int.reduceLE, TES, pe_NameAt_i_eq, pe_TagAt_i_eq, pe_gapAt_eq, pe_byteAt_eq, pe_isFlow_eq, pe_TagRead_i_eq, pe_White_i_eq, pe_Gap_i_eq, XRE, XR, XRH, flt, atR, tellR, textR]
  obtain ⟨hs, hcd, hpos, hpr, hh1, hh2⟩ := hp
  have hpl : r.pos < s.length := isPr_lt hpr
  rw [spot_of s hpos, ← byt_lt hpl]
  refine ⟨by decide +kernel, Chk.mk (by omega) fun _ => ⟨fun h38 => ⟨by decide +kernel, Chk.mk hs fun _ => ?_⟩, fun h33 => ?_⟩⟩
  · by_cases hA : (nmA s r.pos).2.2 = true ∧ an = []
    · have hpc := nmA_sign hA.1
      have eN : spot s (nmA s r.pos).2.1 = (nmA s r.pos).2.1.toNat := by unfold spot; omega
      have eZ : ((nmA s r.pos).2.1.toNat : Int) = (nmA s r.pos).2.1 := by omega
      rw [eN]
      refine ⟨fun hb => by simp [hA.1, hA.2] at hb, fun _ => Chk.mk ⟨hs, by omega⟩ fun _ => Chk.mk (fun h => ⟨⟨h, h⟩, hs⟩) fun _ => ⟨fun hc => ?_, fun hc => ?_⟩⟩
      · have hB : ¬ bhd s fl (nmA s r.pos).2.1.toNat = true := by unfold bhd; rw [bhd_no hc]; simp
        have e : prA s r.hd fl r.pos (⟨ha, an, tg, pe⟩ : Pp) = (⟨ha, (nmA s r.pos).1, tg, pe⟩, 7) := by unfold prA; rw [if_pos h38, if_pos hA, if_neg hB]
        refine XCalls.mut (rfault s r fr la 7 r.pos hcd) rfl [0, 1, 2, 3, 4] (by simp [mapHL, SV.mapH, muL]) (by simp only [ctxMap, at_cons_zero, at_cons_succ, and_true, List.length_cons, List.length_nil]; exact ⟨by omega, soLe_blk (by simp [mapHL, SV.mapH, muL, flt, atR, tellR, textR]), by omega, soLe_same fun _ => rfl, by omega, soLe_same fun _ => rfl, by omega, soLe_map, by omega, soLe_same fun _ => rfl⟩) (by decide) ?_
        simp only [↓XC, XV, XT, forall_const, implies_true, reduceIte, Nat.reduceAdd, Nat.reduceLT, Nat.reduceEqDiff, Nat.reduceBEq, Nat.reduceLeDiff, reduceCtorEq, Nat.reduceSub, Nat.reduceMul, Int.reduceToNat, Int.reduceLT, Int.reduceLE, TES, XRE, XR, XRH, flt, atR, tellR, textR, XM]
        simp only [pr1, e, Int.reduceEq, reduceIte, atR, flt, decide_eq_true hcd, decide_false]
        exact ⟨[0, 1, 2, 3, 4, 5], by decide, by simp only [entCtx, at_cons_zero, at_cons_succ, and_true, true_and]; exact ⟨soLe_blk (by simp [mapHL, SV.mapH, muL, flt, atR, tellR, textR]), soLe_same fun _ => rfl, soLe_same fun _ => rfl, soLe_map, soLe_same fun _ => rfl, soLe_blk (by simp [mapHL, SV.mapH, muL]; try omega)⟩, by simp only [↓XC, XV, XT, forall_const, implies_true, reduceIte, Nat.reduceAdd, Nat.reduceLT, Nat.reduceEqDiff, Nat.reduceBEq, Nat.reduceLeDiff, reduceCtorEq, Nat.reduceSub, Nat.reduceMul, Int.reduceToNat, Int.reduceLT, Int.reduceLE]; try first | rfl | simp [muL, SV.mapH, mapHL], by simp [newRw, SO.ro], by simp⟩
      · have hB : bhd s fl (nmA s r.pos).2.1.toNat = true := by unfold bhd; exact bhd_yes hc
        have e : prA s r.hd fl r.pos (⟨ha, an, tg, pe⟩ : Pp) = (⟨true, (nmA s r.pos).1, tg, (nmA s r.pos).2.1.toNat⟩, 0) := by unfold prA; rw [if_pos h38, if_pos hA, if_pos hB]
        simp only [pr1, e, Int.reduceEq, reduceIte, atR, flt, decide_eq_true hcd, decide_false]
        refine Chk.mk hs fun _ => ⟨fun hf => Chk.mk hs fun _ => ?_, fun hf => ?_⟩
        · subst hf
          rw [show nxP s true _ = gpE s _ from rfl]
          exact ⟨[0, 1, 2, 3, 4, 5], by decide, by simp only [entCtx, at_cons_zero, at_cons_succ, and_true, true_and]; exact ⟨soLe_blk (by simp [mapHL, SV.mapH, muL, flt, atR, tellR, textR]), soLe_same fun _ => rfl, soLe_same fun _ => rfl, soLe_map, soLe_same fun _ => rfl, soLe_blk (by simp [mapHL, SV.mapH, muL]; try omega)⟩, by simp only [↓XC, XV, XT, forall_const, implies_true, reduceIte, Nat.reduceAdd, Nat.reduceLT, Nat.reduceEqDiff, Nat.reduceBEq, Nat.reduceLeDiff, reduceCtorEq, Nat.reduceSub, Nat.reduceMul, Int.reduceToNat, Int.reduceLT, Int.reduceLE]; try first | rfl | simp [muL, SV.mapH, mapHL], by simp [newRw, SO.ro], by simp⟩
        · subst hf
          rw [show nxP s false _ = wh s _ from rfl]
          exact ⟨[0, 1, 2, 3, 4, 5], by decide, by simp only [entCtx, at_cons_zero, at_cons_succ, and_true, true_and]; exact ⟨soLe_blk (by simp [mapHL, SV.mapH, muL, flt, atR, tellR, textR]), soLe_same fun _ => rfl, soLe_same fun _ => rfl, soLe_map, soLe_same fun _ => rfl, soLe_blk (by simp [mapHL, SV.mapH, muL]; try omega)⟩, by simp only [↓XC, XV, XT, forall_const, implies_true, reduceIte, Nat.reduceAdd, Nat.reduceLT, Nat.reduceEqDiff, Nat.reduceBEq, Nat.reduceLeDiff, reduceCtorEq, Nat.reduceSub, Nat.reduceMul, Int.reduceToNat, Int.reduceLT, Int.reduceLE]; try first | rfl | simp [muL, SV.mapH, mapHL], by simp [newRw, SO.ro], by simp⟩
    · have e : prA s r.hd fl r.pos (⟨ha, an, tg, pe⟩ : Pp) = (⟨ha, an, tg, pe⟩, 7) := by unfold prA; rw [if_pos h38, if_neg hA]
      refine ⟨fun hb => ?_, fun hb => absurd (by simpa using hb) hA⟩
      refine XCalls.mut (rfault s r fr la 7 r.pos hcd) rfl [0, 1, 2, 3, 4] (by simp [mapHL, SV.mapH, muL]) (by simp only [ctxMap, at_cons_zero, at_cons_succ, and_true, List.length_cons, List.length_nil]; exact ⟨by omega, soLe_blk (by simp [mapHL, SV.mapH, muL, flt, atR, tellR, textR]), by omega, soLe_same fun _ => rfl, by omega, soLe_same fun _ => rfl, by omega, soLe_map, by omega, soLe_same fun _ => rfl⟩) (by decide) ?_
      simp only [↓XC, XV, XT, forall_const, implies_true, reduceIte, Nat.reduceAdd, Nat.reduceLT, Nat.reduceEqDiff, Nat.reduceBEq, Nat.reduceLeDiff, reduceCtorEq, Nat.reduceSub, Nat.reduceMul, Int.reduceToNat, Int.reduceLT, Int.reduceLE, TES, XRE, XR, XRH, flt, atR, tellR, textR, XM]
      simp only [pr1, e, Int.reduceEq, reduceIte, atR, flt, decide_eq_true hcd, decide_false]
      exact ⟨[0, 1, 2, 3, 4, 5], by decide, by simp only [entCtx, at_cons_zero, at_cons_succ, and_true, true_and]; exact ⟨soLe_blk (by simp [mapHL, SV.mapH, muL, flt, atR, tellR, textR]), soLe_same fun _ => rfl, soLe_same fun _ => rfl, soLe_map, soLe_same fun _ => rfl, soLe_blk (by simp [mapHL, SV.mapH, muL]; try omega)⟩, by simp only [↓XC, XV, XT, forall_const, implies_true, reduceIte, Nat.reduceAdd, Nat.reduceLT, Nat.reduceEqDiff, Nat.reduceBEq, Nat.reduceLeDiff, reduceCtorEq, Nat.reduceSub, Nat.reduceMul, Int.reduceToNat, Int.reduceLT, Int.reduceLE]; try first | rfl | simp [muL, SV.mapH, mapHL], by simp [newRw, SO.ro], by simp⟩
  · have h33' := isPr_33 hpr h33
    have hnn := tgA_nn s r.pos
    refine ⟨by decide +kernel, Chk.mk hs fun _ => Chk.mk (fun h => ⟨⟨h, h⟩, hs, hnn⟩) fun _ => Chk.mk (fun h => ⟨⟨h, h⟩, hs⟩) fun _ => ?_⟩
    by_cases hA : (tgA s r.pos).2.2 = true ∧ tg = [] ∧ bhd s fl (tgA s r.pos).2.1.toNat = true
    · have hpc := tgA_place hA.1
      have hlt := tgA_len s r.pos
      have eN : spot s (tgA s r.pos).2.1 = (tgA s r.pos).2.1.toNat := by unfold spot; omega
      have eZ : ((tgA s r.pos).2.1.toNat : Int) = (tgA s r.pos).2.1 := by omega
      have hB := hA.2.2
      unfold bhd at hB
      rw [eN]
      refine ⟨fun hb => ?_, fun _ => ?_⟩
      · simp only [hA.1, hA.2.1, Bool.not_true, decide_true, Bool.false_or] at hb
        rw [bhd_no hb] at hB; cases hB
      rw [rowE_list rfl]
      simp only [↓XC, XV, XT, forall_const, implies_true, reduceIte, Nat.reduceAdd, Nat.reduceLT, Nat.reduceEqDiff, Nat.reduceBEq, Nat.reduceLeDiff, reduceCtorEq, Nat.reduceSub, Nat.reduceMul, Int.reduceToNat, Int.reduceLT, Int.reduceLE, TES, pe_TagRead_i_eq, pe_gapAt_eq, pe_byteAt_eq, pe_isFlow_eq, pe_White_i_eq, pe_Gap_i_eq, XRE, XR, XRH, flt, atR, tellR, textR]
      refine Chk.mk ⟨Nat.le_refl _, by omega, hh1, hh2⟩ fun _ => ⟨fun hc => ?_, fun hc => ?_⟩
      · have e : prA s r.hd fl r.pos (⟨ha, an, tg, pe⟩ : Pp) = (⟨ha, an, tg, pe⟩, 15) := by unfold prA; rw [if_neg h33, if_pos hA, if_neg (by simpa using hc)]
        refine XCalls.mut (rfault s r fr la 15 r.pos hcd) rfl [0, 1, 2, 3, 4] (by simp [mapHL, SV.mapH, muL]) (by simp only [ctxMap, at_cons_zero, at_cons_succ, and_true, List.length_cons, List.length_nil]; exact ⟨by omega, soLe_blk (by simp [mapHL, SV.mapH, muL, flt, atR, tellR, textR]), by omega, soLe_same fun _ => rfl, by omega, soLe_same fun _ => rfl, by omega, soLe_map, by omega, soLe_same fun _ => rfl⟩) (by decide) ?_
        simp only [↓XC, XV, XT, forall_const, implies_true, reduceIte, Nat.reduceAdd, Nat.reduceLT, Nat.reduceEqDiff, Nat.reduceBEq, Nat.reduceLeDiff, reduceCtorEq, Nat.reduceSub, Nat.reduceMul, Int.reduceToNat, Int.reduceLT, Int.reduceLE, TES, XRE, XR, XRH, flt, atR, tellR, textR, XM]
        simp only [pr1, e, Int.reduceEq, reduceIte, atR, flt, decide_eq_true hcd, decide_false]
        exact ⟨[0, 1, 2, 3, 4, 5], by decide, by simp only [entCtx, at_cons_zero, at_cons_succ, and_true, true_and]; exact ⟨soLe_blk (by simp [mapHL, SV.mapH, muL, flt, atR, tellR, textR]), soLe_same fun _ => rfl, soLe_same fun _ => rfl, soLe_map, soLe_same fun _ => rfl, soLe_blk (by simp [mapHL, SV.mapH, muL]; try omega)⟩, by simp only [↓XC, XV, XT, forall_const, implies_true, reduceIte, Nat.reduceAdd, Nat.reduceLT, Nat.reduceEqDiff, Nat.reduceBEq, Nat.reduceLeDiff, reduceCtorEq, Nat.reduceSub, Nat.reduceMul, Int.reduceToNat, Int.reduceLT, Int.reduceLE]; try first | rfl | simp [muL, SV.mapH, mapHL], by simp [newRw, SO.ro], by simp⟩
      · have e : prA s r.hd fl r.pos (⟨ha, an, tg, pe⟩ : Pp) = (⟨true, an, (trA (tgA s r.pos).1 r.hd).1, (tgA s r.pos).2.1.toNat⟩, 0) := by unfold prA; rw [if_neg h33, if_pos hA, if_pos (by simpa using hc)]
        simp only [eN]
        refine Chk.mk ⟨hs, hnn⟩ fun _ => Chk.mk (fun h => ⟨⟨h, h⟩, hs⟩) fun _ => ⟨fun hb => (by rw [bhd_no hb] at hB; cases hB), fun _ => ?_⟩
        simp only [pr1, e, Int.reduceEq, reduceIte, atR, flt, decide_eq_true hcd, decide_false]
        refine Chk.mk hs fun _ => ⟨fun hf => Chk.mk hs fun _ => ?_, fun hf => ?_⟩
        · subst hf
          rw [show nxP s true _ = gpE s _ from rfl]
          exact ⟨[0, 1, 2, 3, 4, 5], by decide, by simp only [entCtx, at_cons_zero, at_cons_succ, and_true, true_and]; exact ⟨soLe_blk (by simp [mapHL, SV.mapH, muL, flt, atR, tellR, textR]), soLe_same fun _ => rfl, soLe_same fun _ => rfl, soLe_map, soLe_same fun _ => rfl, soLe_blk (by simp [mapHL, SV.mapH, muL]; try omega)⟩, by simp only [↓XC, XV, XT, forall_const, implies_true, reduceIte, Nat.reduceAdd, Nat.reduceLT, Nat.reduceEqDiff, Nat.reduceBEq, Nat.reduceLeDiff, reduceCtorEq, Nat.reduceSub, Nat.reduceMul, Int.reduceToNat, Int.reduceLT, Int.reduceLE]; try first | rfl | simp [muL, SV.mapH, mapHL], by simp [newRw, SO.ro], by simp⟩
        · subst hf
          rw [show nxP s false _ = wh s _ from rfl]
          exact ⟨[0, 1, 2, 3, 4, 5], by decide, by simp only [entCtx, at_cons_zero, at_cons_succ, and_true, true_and]; exact ⟨soLe_blk (by simp [mapHL, SV.mapH, muL, flt, atR, tellR, textR]), soLe_same fun _ => rfl, soLe_same fun _ => rfl, soLe_map, soLe_same fun _ => rfl, soLe_blk (by simp [mapHL, SV.mapH, muL]; try omega)⟩, by simp only [↓XC, XV, XT, forall_const, implies_true, reduceIte, Nat.reduceAdd, Nat.reduceLT, Nat.reduceEqDiff, Nat.reduceBEq, Nat.reduceLeDiff, reduceCtorEq, Nat.reduceSub, Nat.reduceMul, Int.reduceToNat, Int.reduceLT, Int.reduceLE]; try first | rfl | simp [muL, SV.mapH, mapHL], by simp [newRw, SO.ro], by simp⟩
    · have e : prA s r.hd fl r.pos (⟨ha, an, tg, pe⟩ : Pp) = (⟨ha, an, tg, pe⟩, 7) := by unfold prA; rw [if_neg h33, if_neg hA]
      refine ⟨fun hb => ?_, fun hb => absurd ?_ hA⟩
      · refine XCalls.mut (rfault s r fr la 7 r.pos hcd) rfl [0, 1, 2, 3, 4] (by simp [mapHL, SV.mapH, muL]) (by simp only [ctxMap, at_cons_zero, at_cons_succ, and_true, List.length_cons, List.length_nil]; exact ⟨by omega, soLe_blk (by simp [mapHL, SV.mapH, muL, flt, atR, tellR, textR]), by omega, soLe_same fun _ => rfl, by omega, soLe_same fun _ => rfl, by omega, soLe_map, by omega, soLe_same fun _ => rfl⟩) (by decide) ?_
        simp only [↓XC, XV, XT, forall_const, implies_true, reduceIte, Nat.reduceAdd, Nat.reduceLT, Nat.reduceEqDiff, Nat.reduceBEq, Nat.reduceLeDiff, reduceCtorEq, Nat.reduceSub, Nat.reduceMul, Int.reduceToNat, Int.reduceLT, Int.reduceLE, TES, XRE, XR, XRH, flt, atR, tellR, textR, XM]
        simp only [pr1, e, Int.reduceEq, reduceIte, atR, flt, decide_eq_true hcd, decide_false]
        exact ⟨[0, 1, 2, 3, 4, 5], by decide, by simp only [entCtx, at_cons_zero, at_cons_succ, and_true, true_and]; exact ⟨soLe_blk (by simp [mapHL, SV.mapH, muL, flt, atR, tellR, textR]), soLe_same fun _ => rfl, soLe_same fun _ => rfl, soLe_map, soLe_same fun _ => rfl, soLe_blk (by simp [mapHL, SV.mapH, muL]; try omega)⟩, by simp only [↓XC, XV, XT, forall_const, implies_true, reduceIte, Nat.reduceAdd, Nat.reduceLT, Nat.reduceEqDiff, Nat.reduceBEq, Nat.reduceLeDiff, reduceCtorEq, Nat.reduceSub, Nat.reduceMul, Int.reduceToNat, Int.reduceLT, Int.reduceLE]; try first | rfl | simp [muL, SV.mapH, mapHL], by simp [newRw, SO.ro], by simp⟩
      · simp only [Bool.or_eq_false_iff, Bool.not_eq_false', decide_eq_true_eq] at hb
        have hpc := tgA_place hb.1.1
        have eN : spot s (tgA s r.pos).2.1 = (tgA s r.pos).2.1.toNat := by unfold spot; omega
        rw [eN] at hb
        exact ⟨hb.1.1, hb.1.2, by unfold bhd; exact bhd_yes hb.2⟩
end Go.T74
