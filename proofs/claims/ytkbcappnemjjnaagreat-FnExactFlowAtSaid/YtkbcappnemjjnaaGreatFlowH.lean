/- Own text: part FlowH. -/
import Derived.Test.YtkbcappnemjjnaaGreatBaseE
import Derived.Test.YtkbcappnemjjnaaGreatTypes2
import Derived.Test.YtkbcappnemjjnaaGreatTextA
import Derived.Test.YtkbcappnemjjnaaGreatEventA
import Derived.Test.YtkbcappnemjjnaaGreatLineA
import Derived.Test.YtkbcappnemjjnaaGreatRuneA
import Derived.Test.YtkbcappnemjjnaaGreatFoldA
import Derived.Test.YtkbcappnemjjnaaGreatQuotA
import Derived.Test.YtkbcappnemjjnaaGreatQuotB
import Derived.Test.YtkbcappnemjjnaaGreatFlowA
import Derived.Test.YtkbcappnemjjnaaGreatFlowB
import Derived.Test.YtkbcappnemjjnaaGreatFlowC
import Derived.Test.YtkbcappnemjjnaaGreatFlowD
import Derived.Test.YtkbcappnemjjnaaGreatFlowE
import Derived.Test.YtkbcappnemjjnaaGreatFlowF
import Derived.Test.YtkbcappnemjjnaaGreatFlowG
import Derived.Test.YtkbcappnemjjnaaGreatBaseF
set_option linter.unusedVariables false
set_option linter.unusedSimpArgs false
namespace Go.T77
open Go.Proofs Go.Vg Go.RowKit Go.TT Go.Pl Go.T8 Go.T12 Go.T60 Go.T61 Go.T62 Go.T63 Go.T64 Go.T70 Go.T71 Go.T72 Go.T73 Go.T74 Go.T75 Go.T76
set_option linter.unusedVariables false
set_option linter.unusedSimpArgs false
set_option maxRecDepth 10000
set_option maxHeartbeats 4000000
theorem rflowBody (s : Bs) (r : Rd) (fr : Bool) (la : Int) (sb : Rd → Rd) (ha : Bool) (an tg : Bs) (pf : Int) (pe : Nat) (HL : byt s r.pos = 91 → NodeC Tryz.prog 58 s fr la [.agg [.b ha, .s an, .s tg, .i .i64 pf, .i .i64 (pe : Nat)]] r (coR s sb 93 3 r (⟨ha, an, tg, pe⟩ : Pp))) (HM : byt s r.pos = 123 → NodeC Tryz.prog 59 s fr la [.agg [.b ha, .s an, .s tg, .i .i64 pf, .i .i64 (pe : Nat)]] r (coR s (paR s sb) 125 4 r (⟨ha, an, tg, pe⟩ : Pp))) (hp : s.length ≤ 1048576 ∧ Ok s r) : FnK Tryz.prog 32 1 [.ptr 0 0 0, .agg [.b ha, .s an, .s tg, .i .i64 pf, .i .i64 (pe : Nat)]] [some (.blk false [.s s, .i .i64 ((r).pos : Nat), .slc 1 0 (r).ev.length, .slc 2 0 (r).ev.length, .mp 3, .slc 4 0 (r).hd.length, .i .i64 ((r).dp : Nat), .i .i64 (r).cd, .i .i64 ((r).pl : Nat), .b fr, .i .i64 la]), some (.row false 8 (r).ev.length (rowE evc evz (r).ev)), some (.row false 1 (r).ev.length (rowE booc false (r).dn)), some (.mapS (nmI (r).ev (r).bs)), some (.row false 2 (r).hd.length (rowE hdc hdz (r).hd))] (fun z c => z = .b (decide ((boR s sb r (⟨ha, an, tg, pe⟩ : Pp)).cd = 0)) ∧ c = [some (.blk false [.s s, .i .i64 ((boR s sb r (⟨ha, an, tg, pe⟩ : Pp)).pos : Nat), .slc 1 0 (boR s sb r (⟨ha, an, tg, pe⟩ : Pp)).ev.length, .slc 2 0 (boR s sb r (⟨ha, an, tg, pe⟩ : Pp)).ev.length, .mp 3, .slc 4 0 (boR s sb r (⟨ha, an, tg, pe⟩ : Pp)).hd.length, .i .i64 ((boR s sb r (⟨ha, an, tg, pe⟩ : Pp)).dp : Nat), .i .i64 (boR s sb r (⟨ha, an, tg, pe⟩ : Pp)).cd, .i .i64 ((boR s sb r (⟨ha, an, tg, pe⟩ : Pp)).pl : Nat), .b fr, .i .i64 la]), some (.row false 8 (boR s sb r (⟨ha, an, tg, pe⟩ : Pp)).ev.length (rowE evc evz (boR s sb r (⟨ha, an, tg, pe⟩ : Pp)).ev)), some (.row false 1 (boR s sb r (⟨ha, an, tg, pe⟩ : Pp)).ev.length (rowE booc false (boR s sb r (⟨ha, an, tg, pe⟩ : Pp)).dn)), some (.mapS (nmI (boR s sb r (⟨ha, an, tg, pe⟩ : Pp)).ev (boR s sb r (⟨ha, an, tg, pe⟩ : Pp)).bs)), some (.row false 2 (boR s sb r (⟨ha, an, tg, pe⟩ : Pp)).hd.length (rowE hdc hdz (boR s sb r (⟨ha, an, tg, pe⟩ : Pp)).hd))]) := by
  refine FnK.ofE (cf := mkCf Tryz.prog te [(51, pe_byteAt), (61, pe_isQuote), (63, pe_PlainFirst_i)] 76 1 false (fun _ => false) (kp [(0, [0, 3]), (1, [0, 3, 5]), (2, [0, 3, 5, 15]), (3, [4]), (4, [0, 3, 5, 21]), (5, [4]), (6, [0, 3, 5, 27]), (7, [4]), (8, [0, 3, 5, 33]), (9, [4]), (10, [0, 3, 5, 39]), (11, [4]), (12, [0, 3, 52]), (13, []), (14, [4]), (15, [4])]) [] [(1, [], [], .q1 0 (.q1 1 (.q1 2 (.q1 4 (.q1 5 (.q1 6 (.q0 3 [3] (.q0 7 [7] (.alt 8 (.q1 9 (.fin)) (.fin)))))))))), (10, [], [], .q1 0 (.q1 1 (.q1 2 (.q1 4 (.q1 5 (.q1 6 (.q0 3 [3] (.q0 7 [7] (.alt 8 (.q1 9 (.fin)) (.fin))))))))))]) (mkCf_ok te_ok (l := [(51, pe_byteAt), (61, pe_isQuote), (63, pe_PlainFirst_i)]) (⟨pe_byteAt_ok, pe_isQuote_ok, pe_PlainFirst_i_ok, trivial⟩) mixed_ok) Tryz.func32 rfl rfl rfl (by simp [mkCf]) (by simp [mkCf]) (rs := [.tmp 4]) rfl 100000 ?_
  simp only [↓XC, XV, XT, forall_const, implies_true, reduceIte, Nat.reduceAdd, Nat.reduceLT, Nat.reduceEqDiff, Nat.reduceBEq, Nat.reduceLeDiff, reduceCtorEq, Nat.reduceSub, Nat.reduceMul, Int.reduceToNat, Int.reduceLT, Int.reduceLE, TES, pe_byteAt_eq, pe_isQuote_eq, pe_PlainFirst_i_eq, XRE, XR, XRH, flt, atR, tellR, textR]
  obtain ⟨hs, ho⟩ := hp
  have hsz := ho.size hs
  have hcd := ho.cd
  rw [spot_of s ho.pos]
  refine ⟨by decide +kernel, Chk.mk hs fun _ => ⟨fun h1 => ?_, fun h1 => ⟨fun h2 => ?_, fun h2 => ⟨fun h3 => ?_, fun h3 => ⟨fun h4 => ?_, fun h4 => ?_⟩⟩⟩⟩⟩
  · have e : boR s sb r (⟨ha, an, tg, pe⟩ : Pp) = coR s sb 93 3 r (⟨ha, an, tg, pe⟩ : Pp) := by unfold boR; rw [if_pos h1]
    rw [e]
    have hN := HL h1
    unfold NodeC rdC at hN
    refine XCalls.reb (hN) [0, 1, 2, 3, 4] (by simp [mapHL, SV.mapH, muL]) (by simp only [ctxMap, at_cons_zero, at_cons_succ, and_true, List.length_cons, List.length_nil]; exact ⟨by omega, soLe_blk (by simp [mapHL, SV.mapH, muL, flt, atR, tellR, textR]), by omega, soLe_same fun _ => rfl, by omega, soLe_same fun _ => rfl, by omega, soLe_map, by omega, soLe_same fun _ => rfl⟩) (by decide) (by simp [newRw, SO.ro]) (by decide) (by simp [cleanC, upds, cleanO, noHL, noH, SO.ro, litEl]) ?_
    simp only [↓XC, XV, XT, forall_const, implies_true, reduceIte, Nat.reduceAdd, Nat.reduceLT, Nat.reduceEqDiff, Nat.reduceBEq, Nat.reduceLeDiff, reduceCtorEq, Nat.reduceSub, Nat.reduceMul, Int.reduceToNat, Int.reduceLT, Int.reduceLE, TES, XRE, XR, XRH, flt, atR, tellR, textR, XM]
    exact ⟨[0, 1, 2, 3, 4], by decide, by simp only [entCtx, at_cons_zero, at_cons_succ, and_true, true_and]; exact ⟨soLe_blk (by simp [mapHL, SV.mapH, muL, flt, atR, tellR, textR]), soLe_same fun _ => rfl, soLe_same fun _ => rfl, soLe_map, soLe_same fun _ => rfl⟩, by simp only [↓XC, XV, XT, forall_const, implies_true, reduceIte, Nat.reduceAdd, Nat.reduceLT, Nat.reduceEqDiff, Nat.reduceBEq, Nat.reduceLeDiff, reduceCtorEq, Nat.reduceSub, Nat.reduceMul, Int.reduceToNat, Int.reduceLT, Int.reduceLE]; try first | rfl | simp [muL, SV.mapH, mapHL], by simp [newRw, SO.ro], by simp⟩
  · have e : boR s sb r (⟨ha, an, tg, pe⟩ : Pp) = coR s (paR s sb) 125 4 r (⟨ha, an, tg, pe⟩ : Pp) := by unfold boR; rw [if_neg h1, if_pos h2]
    rw [e]
    have hN := HM h2
    unfold NodeC rdC at hN
    refine XCalls.reb (hN) [0, 1, 2, 3, 4] (by simp [mapHL, SV.mapH, muL]) (by simp only [ctxMap, at_cons_zero, at_cons_succ, and_true, List.length_cons, List.length_nil]; exact ⟨by omega, soLe_blk (by simp [mapHL, SV.mapH, muL, flt, atR, tellR, textR]), by omega, soLe_same fun _ => rfl, by omega, soLe_same fun _ => rfl, by omega, soLe_map, by omega, soLe_same fun _ => rfl⟩) (by decide) (by simp [newRw, SO.ro]) (by decide) (by simp [cleanC, upds, cleanO, noHL, noH, SO.ro, litEl]) ?_
    simp only [↓XC, XV, XT, forall_const, implies_true, reduceIte, Nat.reduceAdd, Nat.reduceLT, Nat.reduceEqDiff, Nat.reduceBEq, Nat.reduceLeDiff, reduceCtorEq, Nat.reduceSub, Nat.reduceMul, Int.reduceToNat, Int.reduceLT, Int.reduceLE, TES, XRE, XR, XRH, flt, atR, tellR, textR, XM]
    exact ⟨[0, 1, 2, 3, 4], by decide, by simp only [entCtx, at_cons_zero, at_cons_succ, and_true, true_and]; exact ⟨soLe_blk (by simp [mapHL, SV.mapH, muL, flt, atR, tellR, textR]), soLe_same fun _ => rfl, soLe_same fun _ => rfl, soLe_map, soLe_same fun _ => rfl⟩, by simp only [↓XC, XV, XT, forall_const, implies_true, reduceIte, Nat.reduceAdd, Nat.reduceLT, Nat.reduceEqDiff, Nat.reduceBEq, Nat.reduceLeDiff, reduceCtorEq, Nat.reduceSub, Nat.reduceMul, Int.reduceToNat, Int.reduceLT, Int.reduceLE]; try first | rfl | simp [muL, SV.mapH, mapHL], by simp [newRw, SO.ro], by simp⟩
  · have e : boR s sb r (⟨ha, an, tg, pe⟩ : Pp) = alR s r ha := by unfold boR scR; rw [if_neg h1, if_neg h2, if_pos h3]
    rw [e]
    refine XCalls.reb (ralias s r fr la ha an tg pf pe ⟨hs, by omega, ho.dn, ho.bs, ho.cd, ho.pos⟩) [0, 1, 2, 3, 4] (by simp [mapHL, SV.mapH, muL]) (by simp only [ctxMap, at_cons_zero, at_cons_succ, and_true, List.length_cons, List.length_nil]; exact ⟨by omega, soLe_blk (by simp [mapHL, SV.mapH, muL, flt, atR, tellR, textR]), by omega, soLe_same fun _ => rfl, by omega, soLe_same fun _ => rfl, by omega, soLe_map, by omega, soLe_same fun _ => rfl⟩) (by decide) (by simp [newRw, SO.ro]) (by decide) (by simp [cleanC, upds, cleanO, noHL, noH, SO.ro, litEl]) ?_
    simp only [↓XC, XV, XT, forall_const, implies_true, reduceIte, Nat.reduceAdd, Nat.reduceLT, Nat.reduceEqDiff, Nat.reduceBEq, Nat.reduceLeDiff, reduceCtorEq, Nat.reduceSub, Nat.reduceMul, Int.reduceToNat, Int.reduceLT, Int.reduceLE, TES, XRE, XR, XRH, flt, atR, tellR, textR, XM]
    exact ⟨[0, 1, 2, 3, 4], by decide, by simp only [entCtx, at_cons_zero, at_cons_succ, and_true, true_and]; exact ⟨soLe_blk (by simp [mapHL, SV.mapH, muL, flt, atR, tellR, textR]), soLe_same fun _ => rfl, soLe_same fun _ => rfl, soLe_map, soLe_same fun _ => rfl⟩, by simp only [↓XC, XV, XT, forall_const, implies_true, reduceIte, Nat.reduceAdd, Nat.reduceLT, Nat.reduceEqDiff, Nat.reduceBEq, Nat.reduceLeDiff, reduceCtorEq, Nat.reduceSub, Nat.reduceMul, Int.reduceToNat, Int.reduceLT, Int.reduceLE]; try first | rfl | simp [muL, SV.mapH, mapHL], by simp [newRw, SO.ro], by simp⟩
  · have hqp : r.pos < s.length := by
      simp only [Bool.or_eq_true, beq_iff_eq] at h4
      rcases h4 with h | h
      · exact byt_pos h (by decide)
      · exact byt_pos h (by decide)
    have e : boR s sb r (⟨ha, an, tg, pe⟩ : Pp) = qtR s r (⟨ha, an, tg, pe⟩ : Pp) := by unfold boR scR; rw [if_neg h1, if_neg h2, if_neg h3, if_pos (show isQu (byt s r.pos) = true from h4)]
    rw [e]
    refine XCalls.reb (rquote s r fr la ha an tg pf pe ⟨hs, by omega, ho.dn, ho.bs, ho.cd, hqp⟩) [0, 1, 2, 3, 4] (by simp [mapHL, SV.mapH, muL]) (by simp only [ctxMap, at_cons_zero, at_cons_succ, and_true, List.length_cons, List.length_nil]; exact ⟨by omega, soLe_blk (by simp [mapHL, SV.mapH, muL, flt, atR, tellR, textR]), by omega, soLe_same fun _ => rfl, by omega, soLe_same fun _ => rfl, by omega, soLe_map, by omega, soLe_same fun _ => rfl⟩) (by decide) (by simp [newRw, SO.ro]) (by decide) (by simp [cleanC, upds, cleanO, noHL, noH, SO.ro, litEl]) ?_
    simp only [↓XC, XV, XT, forall_const, implies_true, reduceIte, Nat.reduceAdd, Nat.reduceLT, Nat.reduceEqDiff, Nat.reduceBEq, Nat.reduceLeDiff, reduceCtorEq, Nat.reduceSub, Nat.reduceMul, Int.reduceToNat, Int.reduceLT, Int.reduceLE, TES, XRE, XR, XRH, flt, atR, tellR, textR, XM]
    exact ⟨[0, 1, 2, 3, 4], by decide, by simp only [entCtx, at_cons_zero, at_cons_succ, and_true, true_and]; exact ⟨soLe_blk (by simp [mapHL, SV.mapH, muL, flt, atR, tellR, textR]), soLe_same fun _ => rfl, soLe_same fun _ => rfl, soLe_map, soLe_same fun _ => rfl⟩, by simp only [↓XC, XV, XT, forall_const, implies_true, reduceIte, Nat.reduceAdd, Nat.reduceLT, Nat.reduceEqDiff, Nat.reduceBEq, Nat.reduceLeDiff, reduceCtorEq, Nat.reduceSub, Nat.reduceMul, Int.reduceToNat, Int.reduceLT, Int.reduceLE]; try first | rfl | simp [muL, SV.mapH, mapHL], by simp [newRw, SO.ro], by simp⟩
  have h4' : ¬ isQu (byt s r.pos) = true := by unfold isQu; simpa using h4
  refine ⟨by decide +kernel, Chk.mk hs fun _ => ⟨fun h5 => ?_, fun h5 => ⟨fun h6 => ?_, fun h6 => ?_⟩⟩⟩
  · have e : boR s sb r (⟨ha, an, tg, pe⟩ : Pp) = plR s r (⟨ha, an, tg, pe⟩ : Pp) (-1) true := by unfold boR scR; rw [if_neg h1, if_neg h2, if_neg h3, if_neg h4', if_pos h5]
    rw [e]
    refine XCalls.reb (rplain s r fr la ha an tg pf pe (-1) true ⟨hs, by omega, ho.dn, ho.bs, ho.pos⟩) [0, 1, 2, 3, 4] (by simp [mapHL, SV.mapH, muL]) (by simp only [ctxMap, at_cons_zero, at_cons_succ, and_true, List.length_cons, List.length_nil]; exact ⟨by omega, soLe_blk (by simp [mapHL, SV.mapH, muL, flt, atR, tellR, textR]), by omega, soLe_same fun _ => rfl, by omega, soLe_same fun _ => rfl, by omega, soLe_map, by omega, soLe_same fun _ => rfl⟩) (by decide) (by simp [newRw, SO.ro]) (by decide) (by simp [cleanC, upds, cleanO, noHL, noH, SO.ro, litEl]) ?_
    simp only [↓XC, XV, XT, forall_const, implies_true, reduceIte, Nat.reduceAdd, Nat.reduceLT, Nat.reduceEqDiff, Nat.reduceBEq, Nat.reduceLeDiff, reduceCtorEq, Nat.reduceSub, Nat.reduceMul, Int.reduceToNat, Int.reduceLT, Int.reduceLE, TES, XRE, XR, XRH, flt, atR, tellR, textR, XM]
    simp only [plR, atR, textR, tellR, List.length_append, List.length_cons, List.length_nil, Nat.zero_add]
    exact ⟨[0, 1, 2, 3, 4], by decide, by simp only [entCtx, at_cons_zero, at_cons_succ, and_true, true_and]; exact ⟨soLe_blk (by simp [mapHL, SV.mapH, muL, flt, atR, tellR, textR]), soLe_same fun _ => rfl, soLe_same fun _ => rfl, soLe_map, soLe_same fun _ => rfl⟩, by simp only [↓XC, XV, XT, forall_const, implies_true, reduceIte, Nat.reduceAdd, Nat.reduceLT, Nat.reduceEqDiff, Nat.reduceBEq, Nat.reduceLeDiff, reduceCtorEq, Nat.reduceSub, Nat.reduceMul, Int.reduceToNat, Int.reduceLT, Int.reduceLE]; try simp [muL, SV.mapH, mapHL, hcd], by simp [newRw, SO.ro], by simp⟩
  · have e : boR s sb r (⟨ha, an, tg, pe⟩ : Pp) = textR r 1 [] an tg := by unfold boR scR; rw [if_neg h1, if_neg h2, if_neg h3, if_neg h4', if_neg (by simpa using h5), if_pos (by simpa [or_assoc] using h6)]
    rw [e]
    refine XCalls.reb (rtext s r fr la 1 [] ha an tg pf pe ⟨by omega, ho.dn, ho.bs⟩) [0, 1, 2, 3, 4] (by simp [mapHL, SV.mapH, muL]) (by simp only [ctxMap, at_cons_zero, at_cons_succ, and_true, List.length_cons, List.length_nil]; exact ⟨by omega, soLe_blk (by simp [mapHL, SV.mapH, muL, flt, atR, tellR, textR]), by omega, soLe_same fun _ => rfl, by omega, soLe_same fun _ => rfl, by omega, soLe_map, by omega, soLe_same fun _ => rfl⟩) (by decide) (by simp [newRw, SO.ro]) (by decide) (by simp [cleanC, upds, cleanO, noHL, noH, SO.ro, litEl]) ?_
    simp only [↓XC, XV, XT, forall_const, implies_true, reduceIte, Nat.reduceAdd, Nat.reduceLT, Nat.reduceEqDiff, Nat.reduceBEq, Nat.reduceLeDiff, reduceCtorEq, Nat.reduceSub, Nat.reduceMul, Int.reduceToNat, Int.reduceLT, Int.reduceLE, TES, XRE, XR, XRH, flt, atR, tellR, textR, XM]
    exact ⟨[0, 1, 2, 3, 4], by decide, by simp only [entCtx, at_cons_zero, at_cons_succ, and_true, true_and]; exact ⟨soLe_blk (by simp [mapHL, SV.mapH, muL, flt, atR, tellR, textR]), soLe_same fun _ => rfl, soLe_same fun _ => rfl, soLe_map, soLe_same fun _ => rfl⟩, by simp only [↓XC, XV, XT, forall_const, implies_true, reduceIte, Nat.reduceAdd, Nat.reduceLT, Nat.reduceEqDiff, Nat.reduceBEq, Nat.reduceLeDiff, reduceCtorEq, Nat.reduceSub, Nat.reduceMul, Int.reduceToNat, Int.reduceLT, Int.reduceLE]; try simp [muL, SV.mapH, mapHL, hcd], by simp [newRw, SO.ro], by simp⟩
  · have e : boR s sb r (⟨ha, an, tg, pe⟩ : Pp) = flt r 10 r.pos := by unfold boR scR; rw [if_neg h1, if_neg h2, if_neg h3, if_neg h4', if_neg (by simpa using h5), if_neg (by simpa [or_assoc, and_assoc] using h6)]
    rw [e]
    refine XCalls.mut (rfault s r fr la 10 r.pos hcd) rfl [0, 1, 2, 3, 4] (by simp [mapHL, SV.mapH, muL]) (by simp only [ctxMap, at_cons_zero, at_cons_succ, and_true, List.length_cons, List.length_nil]; exact ⟨by omega, soLe_blk (by simp [mapHL, SV.mapH, muL, flt, atR, tellR, textR]), by omega, soLe_same fun _ => rfl, by omega, soLe_same fun _ => rfl, by omega, soLe_map, by omega, soLe_same fun _ => rfl⟩) (by decide) ?_
    simp only [↓XC, XV, XT, forall_const, implies_true, reduceIte, Nat.reduceAdd, Nat.reduceLT, Nat.reduceEqDiff, Nat.reduceBEq, Nat.reduceLeDiff, reduceCtorEq, Nat.reduceSub, Nat.reduceMul, Int.reduceToNat, Int.reduceLT, Int.reduceLE, TES, XRE, XR, XRH, flt, atR, tellR, textR, XM]
    exact ⟨[0, 1, 2, 3, 4], by decide, by simp only [entCtx, at_cons_zero, at_cons_succ, and_true, true_and]; exact ⟨soLe_blk (by simp [mapHL, SV.mapH, muL, flt, atR, tellR, textR]), soLe_same fun _ => rfl, soLe_same fun _ => rfl, soLe_map, soLe_same fun _ => rfl⟩, by simp only [↓XC, XV, XT, forall_const, implies_true, reduceIte, Nat.reduceAdd, Nat.reduceLT, Nat.reduceEqDiff, Nat.reduceBEq, Nat.reduceLeDiff, reduceCtorEq, Nat.reduceSub, Nat.reduceMul, Int.reduceToNat, Int.reduceLT, Int.reduceLE]; try first | rfl | simp [muL, SV.mapH, mapHL], by simp [newRw, SO.ro], by simp⟩
theorem rflowNode (s : Bs) (r : Rd) (fr : Bool) (la : Int) (sb : Rd → Rd) (HB : ∀ (r1 : Rd) (ha : Bool) (an tg : Bs) (pf : Int) (pe : Nat), Ok s r1 → r1.dp = r.dp → NodeC Tryz.prog 32 s fr la [.agg [.b ha, .s an, .s tg, .i .i64 pf, .i .i64 (pe : Nat)]] r1 (boR s sb r1 (⟨ha, an, tg, pe⟩ : Pp))) (hp : s.length ≤ 1048576 ∧ Ok s r) : FnK Tryz.prog 15 1 [.ptr 0 0 0] [some (.blk false [.s s, .i .i64 ((r).pos : Nat), .slc 1 0 (r).ev.length, .slc 2 0 (r).ev.length, .mp 3, .slc 4 0 (r).hd.length, .i .i64 ((r).dp : Nat), .i .i64 (r).cd, .i .i64 ((r).pl : Nat), .b fr, .i .i64 la]), some (.row false 8 (r).ev.length (rowE evc evz (r).ev)), some (.row false 1 (r).ev.length (rowE booc false (r).dn)), some (.mapS (nmI (r).ev (r).bs)), some (.row false 2 (r).hd.length (rowE hdc hdz (r).hd))] (fun z c => z = .b (decide ((noR s sb r).cd = 0)) ∧ c = [some (.blk false [.s s, .i .i64 ((noR s sb r).pos : Nat), .slc 1 0 (noR s sb r).ev.length, .slc 2 0 (noR s sb r).ev.length, .mp 3, .slc 4 0 (noR s sb r).hd.length, .i .i64 ((noR s sb r).dp : Nat), .i .i64 (noR s sb r).cd, .i .i64 ((noR s sb r).pl : Nat), .b fr, .i .i64 la]), some (.row false 8 (noR s sb r).ev.length (rowE evc evz (noR s sb r).ev)), some (.row false 1 (noR s sb r).ev.length (rowE booc false (noR s sb r).dn)), some (.mapS (nmI (noR s sb r).ev (noR s sb r).bs)), some (.row false 2 (noR s sb r).hd.length (rowE hdc hdz (noR s sb r).hd))]) := by
  refine FnK.ofE (cf := mkCf Tryz.prog te [] 24 1 false (fun i => i == 2) (kp [(0, [0]), (1, [0, 3, 4]), (2, [0, 3, 20]), (3, [2]), (4, [2])]) [] []) (mkCf_ok te_ok (l := []) (trivial) mixed_ok) Tryz.func15 rfl rfl rfl (by simp [mkCf]) (by simp [mkCf]) (rs := [.tmp 2]) rfl 100000 ?_
  simp only [↓XC, XV, XT, forall_const, implies_true, reduceIte, Nat.reduceAdd, Nat.reduceLT, Nat.reduceEqDiff, Nat.reduceBEq, Nat.reduceLeDiff, reduceCtorEq, Nat.reduceSub, Nat.reduceMul, Int.reduceToNat, Int.reduceLT, Int.reduceLE, TES, XRE, XR, XRH, flt, atR, tellR, textR]
  obtain ⟨hs, ho⟩ := hp
  have hsz := ho.size hs
  have hcd := ho.cd
  obtain ⟨q, hq⟩ : ∃ q, q = prR s true r := ⟨_, rfl⟩
  obtain ⟨p, hpp⟩ : ∃ p, p = prP s true r := ⟨_, rfl⟩
  refine XCalls.mut (rprops s r fr la true ⟨hs, hcd, ho.pos, ho.hd, ho.pf⟩) rfl [0, 1, 2, 3, 4] (by simp [mapHL, SV.mapH, muL]) (by simp only [ctxMap, at_cons_zero, at_cons_succ, and_true, List.length_cons, List.length_nil]; exact ⟨by omega, soLe_blk (by simp [mapHL, SV.mapH, muL, flt, atR, tellR, textR]), by omega, soLe_same fun _ => rfl, by omega, soLe_same fun _ => rfl, by omega, soLe_map, by omega, soLe_same fun _ => rfl⟩) (by decide) ?_
  simp only [↓XC, XV, XT, forall_const, implies_true, reduceIte, Nat.reduceAdd, Nat.reduceLT, Nat.reduceEqDiff, Nat.reduceBEq, Nat.reduceLeDiff, reduceCtorEq, Nat.reduceSub, Nat.reduceMul, Int.reduceToNat, Int.reduceLT, Int.reduceLE, TES, XRE, XR, XRH, flt, atR, tellR, textR, XM]
  rw [← hq, ← hpp]
  by_cases hqz : q.cd = 0
  · obtain ⟨a9, e9, l9, l10, _⟩ := prR_ok (fl := true) ho.pos hcd (by rw [← hq]; exact hqz)
    rw [← hq] at e9
    have hqo : Ok s q := by rw [e9]; exact ho.at l9 l10
    have hqd : q.dp = r.dp := by rw [e9]; rfl
    simp only [decide_eq_true hqz]
    cases hh : p.has
    · have hF : prF s r = q := by unfold prF; rw [← hq, ← hpp, if_neg (by rw [hh]; simp)]
      have hFo := hqo
      have hFd := hqd
      have hFz := hqz
      rw [← hh]
      simp only [↓XC, XV, XT, forall_const, implies_true, reduceIte, Nat.reduceAdd, Nat.reduceLT, Nat.reduceEqDiff, Nat.reduceBEq, Nat.reduceLeDiff, reduceCtorEq, Nat.reduceSub, Nat.reduceMul, Int.reduceToNat, Int.reduceLT, Int.reduceLE, TES, XRE, XR, XRH, flt, atR, tellR, textR, ↓xguard_on, ↓xguard_no, ↓xguard_g0, Bool.not_true, Bool.not_false, hh]
      have hN := HB q false p.an p.tg (r.pos : Nat) p.en hFo hFd
      unfold NodeC rdC at hN
      refine XCalls.reb (hN) [0, 1, 2, 3, 4] (by simp [mapHL, SV.mapH, muL]) (by simp only [ctxMap, at_cons_zero, at_cons_succ, and_true, List.length_cons, List.length_nil]; exact ⟨by omega, soLe_blk (by simp [mapHL, SV.mapH, muL, flt, atR, tellR, textR]), by omega, soLe_same fun _ => rfl, by omega, soLe_same fun _ => rfl, by omega, soLe_map, by omega, soLe_same fun _ => rfl⟩) (by decide) (by simp [newRw, SO.ro]) (by decide) (by simp [cleanC, upds, cleanO, noHL, noH, SO.ro, litEl]) ?_
      simp only [↓XC, XV, XT, forall_const, implies_true, reduceIte, Nat.reduceAdd, Nat.reduceLT, Nat.reduceEqDiff, Nat.reduceBEq, Nat.reduceLeDiff, reduceCtorEq, Nat.reduceSub, Nat.reduceMul, Int.reduceToNat, Int.reduceLT, Int.reduceLE, TES, XRE, XR, XRH, flt, atR, tellR, textR, XM]
      have e : noR s sb r = boR s sb q (⟨false, p.an, p.tg, p.en⟩ : Pp) := by unfold noR; rw [hF, if_neg (by simpa using hFz), ← hpp, ← hh]
      rw [e]
      exact ⟨[0, 1, 2, 3, 4], by decide, by simp only [entCtx, at_cons_zero, at_cons_succ, and_true, true_and]; exact ⟨soLe_blk (by simp [mapHL, SV.mapH, muL, flt, atR, tellR, textR]), soLe_same fun _ => rfl, soLe_same fun _ => rfl, soLe_map, soLe_same fun _ => rfl⟩, by simp only [↓XC, XV, XT, forall_const, implies_true, reduceIte, Nat.reduceAdd, Nat.reduceLT, Nat.reduceEqDiff, Nat.reduceBEq, Nat.reduceLeDiff, reduceCtorEq, Nat.reduceSub, Nat.reduceMul, Int.reduceToNat, Int.reduceLT, Int.reduceLE]; try first | rfl | simp [muL, SV.mapH, mapHL], by simp [newRw, SO.ro], by simp⟩
    · simp only [↓XC, XV, XT, forall_const, implies_true, reduceIte, Nat.reduceAdd, Nat.reduceLT, Nat.reduceEqDiff, Nat.reduceBEq, Nat.reduceLeDiff, reduceCtorEq, Nat.reduceSub, Nat.reduceMul, Int.reduceToNat, Int.reduceLT, Int.reduceLE, TES, XRE, XR, XRH, flt, atR, tellR, textR, ↓xguard_on, ↓xguard_no, ↓xguard_g0, Bool.not_true, Bool.not_false]
      obtain ⟨g, hg⟩ : ∃ g, g = stopR s q := ⟨_, rfl⟩
      have hF : prF s r = g := by unfold prF; rw [← hq, ← hpp, if_pos ⟨hqz, hh⟩, hg]
      refine XCalls.mut (rgoes s q fr la ⟨hs, hqz, hqo.pos⟩) rfl [0, 1, 2, 3, 4] (by simp [mapHL, SV.mapH, muL]) (by simp only [ctxMap, at_cons_zero, at_cons_succ, and_true, List.length_cons, List.length_nil]; exact ⟨by omega, soLe_blk (by simp [mapHL, SV.mapH, muL, flt, atR, tellR, textR]), by omega, soLe_same fun _ => rfl, by omega, soLe_same fun _ => rfl, by omega, soLe_map, by omega, soLe_same fun _ => rfl⟩) (by decide) ?_
      simp only [↓XC, XV, XT, forall_const, implies_true, reduceIte, Nat.reduceAdd, Nat.reduceLT, Nat.reduceEqDiff, Nat.reduceBEq, Nat.reduceLeDiff, reduceCtorEq, Nat.reduceSub, Nat.reduceMul, Int.reduceToNat, Int.reduceLT, Int.reduceLE, TES, XRE, XR, XRH, flt, atR, tellR, textR, XM]
      rw [← hg]
      by_cases hFz : g.cd = 0
      · simp only [decide_eq_true hFz]
        have eg : g = q := by rw [hg]; exact (stopR_ok (by rw [← hg]; exact hFz)).1
        have hFo : Ok s g := by rw [eg]; exact hqo
        have hFd : g.dp = r.dp := by rw [eg]; exact hqd
        simp only [↓XC, XV, XT, forall_const, implies_true, reduceIte, Nat.reduceAdd, Nat.reduceLT, Nat.reduceEqDiff, Nat.reduceBEq, Nat.reduceLeDiff, reduceCtorEq, Nat.reduceSub, Nat.reduceMul, Int.reduceToNat, Int.reduceLT, Int.reduceLE, TES, XRE, XR, XRH, flt, atR, tellR, textR, ↓xguard_on, ↓xguard_no, ↓xguard_g0, Bool.not_true, Bool.not_false]
        have hN := HB g true p.an p.tg (r.pos : Nat) p.en hFo hFd
        unfold NodeC rdC at hN
        refine XCalls.reb (hN) [0, 1, 2, 3, 4] (by simp [mapHL, SV.mapH, muL]) (by simp only [ctxMap, at_cons_zero, at_cons_succ, and_true, List.length_cons, List.length_nil]; exact ⟨by omega, soLe_blk (by simp [mapHL, SV.mapH, muL, flt, atR, tellR, textR]), by omega, soLe_same fun _ => rfl, by omega, soLe_same fun _ => rfl, by omega, soLe_map, by omega, soLe_same fun _ => rfl⟩) (by decide) (by simp [newRw, SO.ro]) (by decide) (by simp [cleanC, upds, cleanO, noHL, noH, SO.ro, litEl]) ?_
        simp only [↓XC, XV, XT, forall_const, implies_true, reduceIte, Nat.reduceAdd, Nat.reduceLT, Nat.reduceEqDiff, Nat.reduceBEq, Nat.reduceLeDiff, reduceCtorEq, Nat.reduceSub, Nat.reduceMul, Int.reduceToNat, Int.reduceLT, Int.reduceLE, TES, XRE, XR, XRH, flt, atR, tellR, textR, XM]
        have e : noR s sb r = boR s sb g (⟨true, p.an, p.tg, p.en⟩ : Pp) := by unfold noR; rw [hF, if_neg (by simpa using hFz), ← hpp, ← hh]
        rw [e]
        exact ⟨[0, 1, 2, 3, 4], by decide, by simp only [entCtx, at_cons_zero, at_cons_succ, and_true, true_and]; exact ⟨soLe_blk (by simp [mapHL, SV.mapH, muL, flt, atR, tellR, textR]), soLe_same fun _ => rfl, soLe_same fun _ => rfl, soLe_map, soLe_same fun _ => rfl⟩, by simp only [↓XC, XV, XT, forall_const, implies_true, reduceIte, Nat.reduceAdd, Nat.reduceLT, Nat.reduceEqDiff, Nat.reduceBEq, Nat.reduceLeDiff, reduceCtorEq, Nat.reduceSub, Nat.reduceMul, Int.reduceToNat, Int.reduceLT, Int.reduceLE]; try first | rfl | simp [muL, SV.mapH, mapHL], by simp [newRw, SO.ro], by simp⟩
      · simp only [decide_eq_false hFz]
        simp only [↓XC, XV, XT, forall_const, implies_true, reduceIte, Nat.reduceAdd, Nat.reduceLT, Nat.reduceEqDiff, Nat.reduceBEq, Nat.reduceLeDiff, reduceCtorEq, Nat.reduceSub, Nat.reduceMul, Int.reduceToNat, Int.reduceLT, Int.reduceLE, TES, XRE, XR, XRH, flt, atR, tellR, textR, ↓xguard_on, ↓xguard_no, ↓xguard_g0, Bool.not_true, Bool.not_false]
        have e : noR s sb r = g := by unfold noR; rw [hF, if_pos hFz]
        rw [e, decide_eq_false hFz]
        exact ⟨[0, 1, 2, 3, 4], by decide, by simp only [entCtx, at_cons_zero, at_cons_succ, and_true, true_and]; exact ⟨soLe_blk (by simp [mapHL, SV.mapH, muL, flt, atR, tellR, textR]), soLe_same fun _ => rfl, soLe_same fun _ => rfl, soLe_map, soLe_same fun _ => rfl⟩, by simp only [↓XC, XV, XT, forall_const, implies_true, reduceIte, Nat.reduceAdd, Nat.reduceLT, Nat.reduceEqDiff, Nat.reduceBEq, Nat.reduceLeDiff, reduceCtorEq, Nat.reduceSub, Nat.reduceMul, Int.reduceToNat, Int.reduceLT, Int.reduceLE]; try first | rfl | simp [muL, SV.mapH, mapHL], by simp [newRw, SO.ro], by simp⟩
  · simp only [decide_eq_false hqz]
    simp only [↓XC, XV, XT, forall_const, implies_true, reduceIte, Nat.reduceAdd, Nat.reduceLT, Nat.reduceEqDiff, Nat.reduceBEq, Nat.reduceLeDiff, reduceCtorEq, Nat.reduceSub, Nat.reduceMul, Int.reduceToNat, Int.reduceLT, Int.reduceLE, TES, XRE, XR, XRH, flt, atR, tellR, textR, ↓xguard_on, ↓xguard_no, ↓xguard_g0, Bool.not_true, Bool.not_false]
    have e : noR s sb r = q := by
      have hF : prF s r = q := by unfold prF; rw [← hq, if_neg (fun h => hqz h.1)]
      unfold noR; rw [hF, if_pos hqz]
    rw [e, decide_eq_false hqz]
    exact ⟨[0, 1, 2, 3, 4], by decide, by simp only [entCtx, at_cons_zero, at_cons_succ, and_true, true_and]; exact ⟨soLe_blk (by simp [mapHL, SV.mapH, muL, flt, atR, tellR, textR]), soLe_same fun _ => rfl, soLe_same fun _ => rfl, soLe_map, soLe_same fun _ => rfl⟩, by simp only [↓XC, XV, XT, forall_const, implies_true, reduceIte, Nat.reduceAdd, Nat.reduceLT, Nat.reduceEqDiff, Nat.reduceBEq, Nat.reduceLeDiff, reduceCtorEq, Nat.reduceSub, Nat.reduceMul, Int.reduceToNat, Int.reduceLT, Int.reduceLE]; try first | rfl | simp [muL, SV.mapH, mapHL], by simp [newRw, SO.ro], by simp⟩
theorem rflowPair (s : Bs) (r : Rd) (fr : Bool) (la : Int) (sb : Rd → Rd) (HS : ∀ r1 : Rd, Ok s r1 → r1.dp = r.dp → NodeC Tryz.prog 15 s fr la [] r1 (sb r1)) (hp : s.length ≤ 1048576 ∧ Ok s r) : FnK Tryz.prog 89 1 [.ptr 0 0 0] [some (.blk false [.s s, .i .i64 ((r).pos : Nat), .slc 1 0 (r).ev.length, .slc 2 0 (r).ev.length, .mp 3, .slc 4 0 (r).hd.length, .i .i64 ((r).dp : Nat), .i .i64 (r).cd, .i .i64 ((r).pl : Nat), .b fr, .i .i64 la]), some (.row false 8 (r).ev.length (rowE evc evz (r).ev)), some (.row false 1 (r).ev.length (rowE booc false (r).dn)), some (.mapS (nmI (r).ev (r).bs)), some (.row false 2 (r).hd.length (rowE hdc hdz (r).hd))] (fun z c => z = .b (decide ((paR s sb r).cd = 0)) ∧ c = [some (.blk false [.s s, .i .i64 ((paR s sb r).pos : Nat), .slc 1 0 (paR s sb r).ev.length, .slc 2 0 (paR s sb r).ev.length, .mp 3, .slc 4 0 (paR s sb r).hd.length, .i .i64 ((paR s sb r).dp : Nat), .i .i64 (paR s sb r).cd, .i .i64 ((paR s sb r).pl : Nat), .b fr, .i .i64 la]), some (.row false 8 (paR s sb r).ev.length (rowE evc evz (paR s sb r).ev)), some (.row false 1 (paR s sb r).ev.length (rowE booc false (paR s sb r).dn)), some (.mapS (nmI (paR s sb r).ev (paR s sb r).bs)), some (.row false 2 (paR s sb r).hd.length (rowE hdc hdz (paR s sb r).hd))]) := by
  refine FnK.ofE (cf := mkCf Tryz.prog te [(51, pe_byteAt), (61, pe_isQuote), (63, pe_PlainFirst_i), (80, pe_gapAt), (83, pe_isFlow)] 163 1 false (fun i => i == 2 || i == 14) (kp [(0, [0]), (1, [0, 3, 4]), (2, [0, 3, 4, 23]), (3, [2]), (4, [0, 3, 4, 5]), (5, [2]), (6, [0, 3, 4, 5, 39]), (7, [0, 4, 5]), (8, [0, 3, 4, 5, 45]), (9, [0, 4, 5]), (10, [0, 3, 4, 5, 51]), (11, [0, 4, 5]), (12, [0, 3, 4, 5, 64]), (13, [0, 4, 5]), (14, [0, 5, 88]), (15, [2]), (16, [0, 6]), (17, [0, 129]), (18, []), (19, [2]), (20, [0]), (21, [0, 142]), (22, [2]), (23, [0, 7]), (24, [0, 157]), (25, []), (26, [2]), (27, [2])]) [4, 14] [(4, [], [], .q1 0 (.q1 1 (.q1 2 (.q1 4 (.q1 5 (.q1 6 (.q0 3 [3] (.q0 7 [7] (.alt 8 (.q1 9 (.fin)) (.fin)))))))))), (10, [], [], .q1 0 (.q1 1 (.q1 2 (.q1 4 (.q1 5 (.q1 6 (.q0 3 [3] (.q0 7 [7] (.alt 8 (.q1 9 (.fin)) (.fin)))))))))), (16, [], [], .q1 0 (.q1 1 (.q1 2 (.q1 4 (.q1 5 (.q1 6 (.q0 3 [3] (.q0 7 [7] (.q1 8 (.alt 9 (.q1 10 (.q1 11 (.q1 12 (.q1 13 (.q1 15 (.q1 16 (.q1 17 (.q0 14 [14] (.q0 18 [18] (.q1 19 (.alt 20 (.alt 21 (.q1 22 (.q1 23 (.q1 24 (.alt 25 (.q1 26 (.q1 27 (.fin))) (.fin))))) (.fin)) (.fin)))))))))))) (.fin))))))))))), (17, [], [], .q1 0 (.q1 1 (.q1 2 (.q1 4 (.q1 5 (.q1 6 (.q0 3 [3] (.q0 7 [7] (.q1 8 (.q1 9 (.q1 10 (.q1 11 (.q1 12 (.q1 13 (.fin))))))))))))))), (23, [], [], .q1 0 (.q1 1 (.q1 2 (.q1 4 (.q1 5 (.q1 6 (.q0 3 [3] (.q0 7 [7] (.q1 8 (.q1 9 (.fin)))))))))))]) (mkCf_ok te_ok (l := [(51, pe_byteAt), (61, pe_isQuote), (63, pe_PlainFirst_i), (80, pe_gapAt), (83, pe_isFlow)]) (⟨pe_byteAt_ok, pe_isQuote_ok, pe_PlainFirst_i_ok, pe_gapAt_ok, pe_isFlow_ok, trivial⟩) mixed_ok) Tryz.func89 rfl rfl rfl (by simp [mkCf]) (by simp [mkCf]) (rs := [.tmp 2]) rfl 100000 ?_
  simp only [↓XC, XV, XT, forall_const, implies_true, reduceIte, Nat.reduceAdd, Nat.reduceLT, Nat.reduceEqDiff, Nat.reduceBEq, Nat.reduceLeDiff, reduceCtorEq, Nat.reduceSub, Nat.reduceMul, Int.reduceToNat, Int.reduceLT, Int.reduceLE, TES, pe_byteAt_eq, pe_isQuote_eq, pe_PlainFirst_i_eq, pe_gapAt_eq, pe_isFlow_eq, XRE, XR, XRH, flt, atR, tellR, textR, XCut]
  obtain ⟨hs, ho⟩ := hp
  have hsz := ho.size hs
  have hcd := ho.cd
  obtain ⟨q, hq⟩ : ∃ q, q = prR s true r := ⟨_, rfl⟩
  obtain ⟨p, hpp⟩ : ∃ p, p = prP s true r := ⟨_, rfl⟩
  refine XCalls.mut (rprops s r fr la true ⟨hs, hcd, ho.pos, ho.hd, ho.pf⟩) rfl [0, 1, 2, 3, 4] (by simp [mapHL, SV.mapH, muL]) (by simp only [ctxMap, at_cons_zero, at_cons_succ, and_true, List.length_cons, List.length_nil]; exact ⟨by omega, soLe_blk (by simp [mapHL, SV.mapH, muL, flt, atR, tellR, textR, XCut]), by omega, soLe_same fun _ => rfl, by omega, soLe_same fun _ => rfl, by omega, soLe_map, by omega, soLe_same fun _ => rfl⟩) (by decide) ?_
  simp only [↓XC, XV, XT, forall_const, implies_true, reduceIte, Nat.reduceAdd, Nat.reduceLT, Nat.reduceEqDiff, Nat.reduceBEq, Nat.reduceLeDiff, reduceCtorEq, Nat.reduceSub, Nat.reduceMul, Int.reduceToNat, Int.reduceLT, Int.reduceLE, TES, XRE, XR, XRH, flt, atR, tellR, textR, XCut, XM]
  rw [← hq, ← hpp]
  refine VCuts.of (ι := {x : Rd // x = prF s r ∧ x.cd = 0}) (fun x => ⟨[(0, .ptr 0 0 0), (3, .ptr 5 0 0), (4, .b true)], [some (.blk false [.s s, .i .i64 ((x.1).pos : Nat), .slc 1 0 (x.1).ev.length, .slc 2 0 (x.1).ev.length, .mp 3, .slc 4 0 (x.1).hd.length, .i .i64 ((x.1).dp : Nat), .i .i64 (x.1).cd, .i .i64 ((x.1).pl : Nat), .b fr, .i .i64 la]), some (.row false 8 (x.1).ev.length (rowE evc evz (x.1).ev)), some (.row false 1 (x.1).ev.length (rowE booc false (x.1).dn)), some (.mapS (nmI (x.1).ev (x.1).bs)), some (.row false 2 (x.1).hd.length (rowE hdc hdz (x.1).hd)), some (.blk false [.b p.has, .s p.an, .s p.tg, .i .i64 (r.pos : Nat), .i .i64 (p.en : Nat)])]⟩) ?_ ?_
  · by_cases hqz : q.cd = 0
    · obtain ⟨a9, e9, l9, l10, _⟩ := prR_ok (fl := true) ho.pos hcd (by rw [← hq]; exact hqz)
      rw [← hq] at e9
      have hqo : Ok s q := by rw [e9]; exact ho.at l9 l10
      simp only [decide_eq_true hqz]
      cases hh : p.has
      · have hF : q = prF s r := by unfold prF; rw [← hq, ← hpp, if_neg (by rw [hh]; simp)]
        simp only [↓XC, XV, XT, forall_const, implies_true, reduceIte, Nat.reduceAdd, Nat.reduceLT, Nat.reduceEqDiff, Nat.reduceBEq, Nat.reduceLeDiff, reduceCtorEq, Nat.reduceSub, Nat.reduceMul, Int.reduceToNat, Int.reduceLT, Int.reduceLE, TES, XRE, XR, XRH, flt, atR, tellR, textR, XCut, ↓xguard_on, ↓xguard_no, ↓xguard_g0, Bool.not_true, Bool.not_false]
        exact ⟨⟨q, hF, hqz⟩, (Ent.ren1 [0, 1, 2, 3, 4, 5] (by decide) (by simp only [entCtx, at_cons_zero, at_cons_succ, and_true, true_and]; exact ⟨soLe_blk (by simp [mapHL, SV.mapH, muL, flt, atR, tellR, textR]), soLe_same fun _ => rfl, soLe_same fun _ => rfl, soLe_map, soLe_same fun _ => rfl, soLe_blk (by simp [mapHL, SV.mapH, muL])⟩) (by simp [entEnv, Vg.look, SV.mapH, muL]))⟩
      · simp only [↓XC, XV, XT, forall_const, implies_true, reduceIte, Nat.reduceAdd, Nat.reduceLT, Nat.reduceEqDiff, Nat.reduceBEq, Nat.reduceLeDiff, reduceCtorEq, Nat.reduceSub, Nat.reduceMul, Int.reduceToNat, Int.reduceLT, Int.reduceLE, TES, XRE, XR, XRH, flt, atR, tellR, textR, XCut, ↓xguard_on, ↓xguard_no, ↓xguard_g0, Bool.not_true, Bool.not_false]
        obtain ⟨g, hg⟩ : ∃ g, g = stopR s q := ⟨_, rfl⟩
        have hF : g = prF s r := by unfold prF; rw [← hq, ← hpp, if_pos ⟨hqz, hh⟩, hg]
        refine XCalls.mut (rgoes s q fr la ⟨hs, hqz, hqo.pos⟩) rfl [0, 1, 2, 3, 4] (by simp [mapHL, SV.mapH, muL]) (by simp only [ctxMap, at_cons_zero, at_cons_succ, and_true, List.length_cons, List.length_nil]; exact ⟨by omega, soLe_blk (by simp [mapHL, SV.mapH, muL, flt, atR, tellR, textR]), by omega, soLe_same fun _ => rfl, by omega, soLe_same fun _ => rfl, by omega, soLe_map, by omega, soLe_same fun _ => rfl⟩) (by decide) ?_
        simp only [↓XC, XV, XT, forall_const, implies_true, reduceIte, Nat.reduceAdd, Nat.reduceLT, Nat.reduceEqDiff, Nat.reduceBEq, Nat.reduceLeDiff, reduceCtorEq, Nat.reduceSub, Nat.reduceMul, Int.reduceToNat, Int.reduceLT, Int.reduceLE, TES, XRE, XR, XRH, flt, atR, tellR, textR, XCut, XM]
        rw [← hg]
        by_cases hFz : g.cd = 0
        · simp only [decide_eq_true hFz]
          simp only [↓XC, XV, XT, forall_const, implies_true, reduceIte, Nat.reduceAdd, Nat.reduceLT, Nat.reduceEqDiff, Nat.reduceBEq, Nat.reduceLeDiff, reduceCtorEq, Nat.reduceSub, Nat.reduceMul, Int.reduceToNat, Int.reduceLT, Int.reduceLE, TES, XRE, XR, XRH, flt, atR, tellR, textR, XCut, ↓xguard_on, ↓xguard_no, ↓xguard_g0, Bool.not_true, Bool.not_false]
          exact ⟨⟨g, hF, hFz⟩, (Ent.ren1 [0, 1, 2, 3, 4, 5] (by decide) (by simp only [entCtx, at_cons_zero, at_cons_succ, and_true, true_and]; exact ⟨soLe_blk (by simp [mapHL, SV.mapH, muL, flt, atR, tellR, textR]), soLe_same fun _ => rfl, soLe_same fun _ => rfl, soLe_map, soLe_same fun _ => rfl, soLe_blk (by simp [mapHL, SV.mapH, muL])⟩) (by simp [entEnv, Vg.look, SV.mapH, muL]))⟩
        · simp only [decide_eq_false hFz]
          simp only [↓XC, XV, XT, forall_const, implies_true, reduceIte, Nat.reduceAdd, Nat.reduceLT, Nat.reduceEqDiff, Nat.reduceBEq, Nat.reduceLeDiff, reduceCtorEq, Nat.reduceSub, Nat.reduceMul, Int.reduceToNat, Int.reduceLT, Int.reduceLE, TES, XRE, XR, XRH, flt, atR, tellR, textR, XCut, ↓xguard_on, ↓xguard_no, ↓xguard_g0, Bool.not_true, Bool.not_false]
          have e : paR s sb r = g := by unfold paR; rw [← hF, if_pos hFz]
          rw [e, decide_eq_false hFz]
          exact ⟨[0, 1, 2, 3, 4], by decide, by simp only [entCtx, at_cons_zero, at_cons_succ, and_true, true_and]; exact ⟨soLe_blk (by simp [mapHL, SV.mapH, muL, flt, atR, tellR, textR]), soLe_same fun _ => rfl, soLe_same fun _ => rfl, soLe_map, soLe_same fun _ => rfl⟩, by simp only [↓XC, XV, XT, forall_const, implies_true, reduceIte, Nat.reduceAdd, Nat.reduceLT, Nat.reduceEqDiff, Nat.reduceBEq, Nat.reduceLeDiff, reduceCtorEq, Nat.reduceSub, Nat.reduceMul, Int.reduceToNat, Int.reduceLT, Int.reduceLE]; try first | rfl | simp [muL, SV.mapH, mapHL], by simp [newRw, SO.ro], by simp⟩
    · simp only [decide_eq_false hqz]
      simp only [↓XC, XV, XT, forall_const, implies_true, reduceIte, Nat.reduceAdd, Nat.reduceLT, Nat.reduceEqDiff, Nat.reduceBEq, Nat.reduceLeDiff, reduceCtorEq, Nat.reduceSub, Nat.reduceMul, Int.reduceToNat, Int.reduceLT, Int.reduceLE, TES, XRE, XR, XRH, flt, atR, tellR, textR, XCut, ↓xguard_on, ↓xguard_no, ↓xguard_g0, Bool.not_true, Bool.not_false]
      have e : paR s sb r = q := by
        have hF : prF s r = q := by unfold prF; rw [← hq, if_neg (fun h => hqz h.1)]
        unfold paR; rw [hF, if_pos hqz]
      rw [e, decide_eq_false hqz]
      exact ⟨[0, 1, 2, 3, 4], by decide, by simp only [entCtx, at_cons_zero, at_cons_succ, and_true, true_and]; exact ⟨soLe_blk (by simp [mapHL, SV.mapH, muL, flt, atR, tellR, textR]), soLe_same fun _ => rfl, soLe_same fun _ => rfl, soLe_map, soLe_same fun _ => rfl⟩, by simp only [↓XC, XV, XT, forall_const, implies_true, reduceIte, Nat.reduceAdd, Nat.reduceLT, Nat.reduceEqDiff, Nat.reduceBEq, Nat.reduceLeDiff, reduceCtorEq, Nat.reduceSub, Nat.reduceMul, Int.reduceToNat, Int.reduceLT, Int.reduceLE]; try first | rfl | simp [muL, SV.mapH, mapHL], by simp [newRw, SO.ro], by simp⟩
  rintro ⟨F, hF, hFz⟩
  have hFo : Ok s F := by rw [hF]; exact ho.prF (by rw [← hF]; exact hFz)
  have hFd : F.dp = r.dp := by
    obtain ⟨q9, e9, _⟩ := prF_ok ho.pos hcd (show (prF s r).cd = 0 by rw [← hF]; exact hFz)
    rw [hF, e9]; rfl
  have hFsz := hFo.size hs
  simp only [↓XC, XV, XT, forall_const, implies_true, reduceIte, Nat.reduceAdd, Nat.reduceLT, Nat.reduceEqDiff, Nat.reduceBEq, Nat.reduceLeDiff, reduceCtorEq, Nat.reduceSub, Nat.reduceMul, Int.reduceToNat, Int.reduceLT, Int.reduceLE, TES, pe_byteAt_eq, pe_isQuote_eq, pe_PlainFirst_i_eq, pe_gapAt_eq, pe_isFlow_eq, XRE, XR, XRH, flt, atR, tellR, textR, XCut]
  rw [spot_of s hFo.pos]
  refine ⟨by decide +kernel, Chk.mk hs fun _ => ?_⟩
  refine VCuts.of (ι := {x : Rd // x = scR s F p 125 58}) (fun x => ⟨[(0, .ptr 0 0 0), (4, .b (decide (x.1.cd = 0))), (5, .i .i64 (byt s F.pos))], [some (.blk false [.s s, .i .i64 ((x.1).pos : Nat), .slc 1 0 (x.1).ev.length, .slc 2 0 (x.1).ev.length, .mp 3, .slc 4 0 (x.1).hd.length, .i .i64 ((x.1).dp : Nat), .i .i64 (x.1).cd, .i .i64 ((x.1).pl : Nat), .b fr, .i .i64 la]), some (.row false 8 (x.1).ev.length (rowE evc evz (x.1).ev)), some (.row false 1 (x.1).ev.length (rowE booc false (x.1).dn)), some (.mapS (nmI (x.1).ev (x.1).bs)), some (.row false 2 (x.1).hd.length (rowE hdc hdz (x.1).hd))]⟩) ?_ ?_
  · simp only [↓XC, XV, XT, forall_const, implies_true, reduceIte, Nat.reduceAdd, Nat.reduceLT, Nat.reduceEqDiff, Nat.reduceBEq, Nat.reduceLeDiff, reduceCtorEq, Nat.reduceSub, Nat.reduceMul, Int.reduceToNat, Int.reduceLT, Int.reduceLE, TES, pe_byteAt_eq, pe_isQuote_eq, pe_PlainFirst_i_eq, pe_gapAt_eq, pe_isFlow_eq, XRE, XR, XRH, flt, atR, tellR, textR, XCut]
    refine ⟨fun h3 => ?_, fun h3 => ⟨fun h4 => ?_, fun h4 => ⟨by decide +kernel, Chk.mk hs fun _ => ?_⟩⟩⟩
    · have e : scR s F p 125 58 = alR s F p.has := by unfold scR; rw [if_pos h3]
      refine XCalls.reb (ralias s F fr la p.has p.an p.tg (r.pos : Nat) p.en ⟨hs, by omega, hFo.dn, hFo.bs, hFz, hFo.pos⟩) [0, 1, 2, 3, 4] (by simp [mapHL, SV.mapH, muL]) (by simp only [ctxMap, at_cons_zero, at_cons_succ, and_true, List.length_cons, List.length_nil]; exact ⟨by omega, soLe_blk (by simp [mapHL, SV.mapH, muL, flt, atR, tellR, textR]), by omega, soLe_same fun _ => rfl, by omega, soLe_same fun _ => rfl, by omega, soLe_map, by omega, soLe_same fun _ => rfl⟩) (by decide) (by simp [newRw, SO.ro]) (by decide) (by simp [cleanC, upds, cleanO, noHL, noH, SO.ro, litEl]) ?_
      simp only [↓XC, XV, XT, forall_const, implies_true, reduceIte, Nat.reduceAdd, Nat.reduceLT, Nat.reduceEqDiff, Nat.reduceBEq, Nat.reduceLeDiff, reduceCtorEq, Nat.reduceSub, Nat.reduceMul, Int.reduceToNat, Int.reduceLT, Int.reduceLE, TES, pe_byteAt_eq, pe_isQuote_eq, pe_PlainFirst_i_eq, pe_gapAt_eq, pe_isFlow_eq, XRE, XR, XRH, flt, atR, tellR, textR, XCut, XM]
      exact ⟨⟨alR s F p.has, e.symm⟩, (Ent.ren1 [0, 1, 2, 3, 4] (by decide) (by simp only [entCtx, at_cons_zero, at_cons_succ, and_true, true_and]; exact ⟨soLe_blk (by simp [mapHL, SV.mapH, muL, flt, atR, tellR, textR]), soLe_same fun _ => rfl, soLe_same fun _ => rfl, soLe_map, soLe_same fun _ => rfl⟩) (by simp [entEnv, Vg.look, SV.mapH, muL]))⟩
    · have hqp : F.pos < s.length := by
        simp only [Bool.or_eq_true, beq_iff_eq] at h4
        rcases h4 with h | h
        · exact byt_pos h (by decide)
        · exact byt_pos h (by decide)
      have e : scR s F p 125 58 = qtR s F p := by unfold scR; rw [if_neg h3, if_pos (show isQu (byt s F.pos) = true from h4)]
      refine XCalls.reb (rquote s F fr la p.has p.an p.tg (r.pos : Nat) p.en ⟨hs, by omega, hFo.dn, hFo.bs, hFz, hqp⟩) [0, 1, 2, 3, 4] (by simp [mapHL, SV.mapH, muL]) (by simp only [ctxMap, at_cons_zero, at_cons_succ, and_true, List.length_cons, List.length_nil]; exact ⟨by omega, soLe_blk (by simp [mapHL, SV.mapH, muL, flt, atR, tellR, textR]), by omega, soLe_same fun _ => rfl, by omega, soLe_same fun _ => rfl, by omega, soLe_map, by omega, soLe_same fun _ => rfl⟩) (by decide) (by simp [newRw, SO.ro]) (by decide) (by simp [cleanC, upds, cleanO, noHL, noH, SO.ro, litEl]) ?_
      simp only [↓XC, XV, XT, forall_const, implies_true, reduceIte, Nat.reduceAdd, Nat.reduceLT, Nat.reduceEqDiff, Nat.reduceBEq, Nat.reduceLeDiff, reduceCtorEq, Nat.reduceSub, Nat.reduceMul, Int.reduceToNat, Int.reduceLT, Int.reduceLE, TES, pe_byteAt_eq, pe_isQuote_eq, pe_PlainFirst_i_eq, pe_gapAt_eq, pe_isFlow_eq, XRE, XR, XRH, flt, atR, tellR, textR, XCut, XM]
      exact ⟨⟨qtR s F p, e.symm⟩, (Ent.ren1 [0, 1, 2, 3, 4] (by decide) (by simp only [entCtx, at_cons_zero, at_cons_succ, and_true, true_and]; exact ⟨soLe_blk (by simp [mapHL, SV.mapH, muL, flt, atR, tellR, textR]), soLe_same fun _ => rfl, soLe_same fun _ => rfl, soLe_map, soLe_same fun _ => rfl⟩) (by simp [entEnv, Vg.look, SV.mapH, muL]))⟩
    rw [spot_of s hFo.pos]
    have h4' : ¬ isQu (byt s F.pos) = true := by unfold isQu; simpa using h4
    refine ⟨fun h5 => ?_, fun h5 => ⟨fun h6 => ?_, fun h6 => ?_⟩⟩
    · have e : scR s F p 125 58 = plR s F p (-1) true := by unfold scR; rw [if_neg h3, if_neg h4', if_pos h5]
      refine XCalls.reb (rplain s F fr la p.has p.an p.tg (r.pos : Nat) p.en (-1) true ⟨hs, by omega, hFo.dn, hFo.bs, hFo.pos⟩) [0, 1, 2, 3, 4] (by simp [mapHL, SV.mapH, muL]) (by simp only [ctxMap, at_cons_zero, at_cons_succ, and_true, List.length_cons, List.length_nil]; exact ⟨by omega, soLe_blk (by simp [mapHL, SV.mapH, muL, flt, atR, tellR, textR]), by omega, soLe_same fun _ => rfl, by omega, soLe_same fun _ => rfl, by omega, soLe_map, by omega, soLe_same fun _ => rfl⟩) (by decide) (by simp [newRw, SO.ro]) (by decide) (by simp [cleanC, upds, cleanO, noHL, noH, SO.ro, litEl]) ?_
      simp only [↓XC, XV, XT, forall_const, implies_true, reduceIte, Nat.reduceAdd, Nat.reduceLT, Nat.reduceEqDiff, Nat.reduceBEq, Nat.reduceLeDiff, reduceCtorEq, Nat.reduceSub, Nat.reduceMul, Int.reduceToNat, Int.reduceLT, Int.reduceLE, TES, pe_byteAt_eq, pe_isQuote_eq, pe_PlainFirst_i_eq, pe_gapAt_eq, pe_isFlow_eq, XRE, XR, XRH, flt, atR, tellR, textR, XCut, XM]
      exact ⟨⟨plR s F p (-1) true, e.symm⟩, (Ent.ren1 [0, 1, 2, 3, 4] (by decide) (by simp only [entCtx, at_cons_zero, at_cons_succ, and_true, true_and]; exact ⟨soLe_blk (by simp [mapHL, SV.mapH, muL, flt, atR, tellR, textR]), soLe_same fun _ => rfl, soLe_same fun _ => rfl, soLe_map, soLe_same fun _ => rfl⟩) (by simp [entEnv, Vg.look, SV.mapH, muL, hFz, plR, atR, textR, tellR]))⟩
    · have e : scR s F p 125 58 = textR F 1 [] p.an p.tg := by unfold scR; rw [if_neg h3, if_neg h4', if_neg (by simpa using h5), if_pos (by simpa [or_assoc] using h6)]
      refine XCalls.reb (rtext s F fr la 1 [] p.has p.an p.tg (r.pos : Nat) p.en ⟨by omega, hFo.dn, hFo.bs⟩) [0, 1, 2, 3, 4] (by simp [mapHL, SV.mapH, muL]) (by simp only [ctxMap, at_cons_zero, at_cons_succ, and_true, List.length_cons, List.length_nil]; exact ⟨by omega, soLe_blk (by simp [mapHL, SV.mapH, muL, flt, atR, tellR, textR]), by omega, soLe_same fun _ => rfl, by omega, soLe_same fun _ => rfl, by omega, soLe_map, by omega, soLe_same fun _ => rfl⟩) (by decide) (by simp [newRw, SO.ro]) (by decide) (by simp [cleanC, upds, cleanO, noHL, noH, SO.ro, litEl]) ?_
      simp only [↓XC, XV, XT, forall_const, implies_true, reduceIte, Nat.reduceAdd, Nat.reduceLT, Nat.reduceEqDiff, Nat.reduceBEq, Nat.reduceLeDiff, reduceCtorEq, Nat.reduceSub, Nat.reduceMul, Int.reduceToNat, Int.reduceLT, Int.reduceLE, TES, pe_byteAt_eq, pe_isQuote_eq, pe_PlainFirst_i_eq, pe_gapAt_eq, pe_isFlow_eq, XRE, XR, XRH, flt, atR, tellR, textR, XCut, XM]
      refine ⟨⟨textR F 1 [] p.an p.tg, e.symm⟩, ?_⟩
      simp only [textR, tellR, List.length_append, List.length_cons, List.length_nil, Nat.zero_add]
      exact (Ent.ren1 [0, 1, 2, 3, 4] (by decide) (by simp only [entCtx, at_cons_zero, at_cons_succ, and_true, true_and]; exact ⟨soLe_blk (by simp [mapHL, SV.mapH, muL, flt, atR, tellR, textR]), soLe_same fun _ => rfl, soLe_same fun _ => rfl, soLe_map, soLe_same fun _ => rfl⟩) (by simp [entEnv, Vg.look, SV.mapH, muL, hFz]))
    · have e : paR s sb r = flt F 10 F.pos := by
        have e2 : scR s F p 125 58 = flt F 10 F.pos := by unfold scR; rw [if_neg h3, if_neg h4', if_neg (by simpa using h5), if_neg (by simpa [or_assoc, and_assoc] using h6)]
        unfold paR
        rw [← hF, ← hpp, if_neg (by simpa using hFz), e2, if_pos (by simp [flt])]
      rw [e]
      refine XCalls.mut (rfault s F fr la 10 F.pos hFz) rfl [0, 1, 2, 3, 4] (by simp [mapHL, SV.mapH, muL]) (by simp only [ctxMap, at_cons_zero, at_cons_succ, and_true, List.length_cons, List.length_nil]; exact ⟨by omega, soLe_blk (by simp [mapHL, SV.mapH, muL, flt, atR, tellR, textR]), by omega, soLe_same fun _ => rfl, by omega, soLe_same fun _ => rfl, by omega, soLe_map, by omega, soLe_same fun _ => rfl⟩) (by decide) ?_
      simp only [↓XC, XV, XT, forall_const, implies_true, reduceIte, Nat.reduceAdd, Nat.reduceLT, Nat.reduceEqDiff, Nat.reduceBEq, Nat.reduceLeDiff, reduceCtorEq, Nat.reduceSub, Nat.reduceMul, Int.reduceToNat, Int.reduceLT, Int.reduceLE, TES, XRE, XR, XRH, flt, atR, tellR, textR, XCut, XM]
      exact ⟨[0, 1, 2, 3, 4], by decide, by simp only [entCtx, at_cons_zero, at_cons_succ, and_true, true_and]; exact ⟨soLe_blk (by simp [mapHL, SV.mapH, muL, flt, atR, tellR, textR]), soLe_same fun _ => rfl, soLe_same fun _ => rfl, soLe_map, soLe_same fun _ => rfl⟩, by simp only [↓XC, XV, XT, forall_const, implies_true, reduceIte, Nat.reduceAdd, Nat.reduceLT, Nat.reduceEqDiff, Nat.reduceBEq, Nat.reduceLeDiff, reduceCtorEq, Nat.reduceSub, Nat.reduceMul, Int.reduceToNat, Int.reduceLT, Int.reduceLE]; try first | rfl | simp [muL, SV.mapH, mapHL], by simp [newRw, SO.ro], by simp⟩
  rintro ⟨x, hx⟩
  have e0 : paR s sb r = if x.cd ≠ 0 then x else if (gapR s x).cd ≠ 0 then gapR s x else paK s sb (isQu (byt s F.pos)) (gapR s x) := by
    unfold paR
    rw [← hF, ← hpp, ← hx, if_neg (by simpa using hFz)]
  simp only [↓XC, XV, XT, forall_const, implies_true, reduceIte, Nat.reduceAdd, Nat.reduceLT, Nat.reduceEqDiff, Nat.reduceBEq, Nat.reduceLeDiff, reduceCtorEq, Nat.reduceSub, Nat.reduceMul, Int.reduceToNat, Int.reduceLT, Int.reduceLE, TES, pe_byteAt_eq, pe_isQuote_eq, pe_PlainFirst_i_eq, pe_gapAt_eq, pe_isFlow_eq, XRE, XR, XRH, flt, atR, tellR, textR, XCut]
  by_cases hxz : x.cd = 0
  · have hst := pa_key ho hF hFz (by rw [hx, hpp]) hxz
    have hxo := hst.ok
    simp only [decide_eq_true hxz]
    simp only [↓XC, XV, XT, forall_const, implies_true, reduceIte, Nat.reduceAdd, Nat.reduceLT, Nat.reduceEqDiff, Nat.reduceBEq, Nat.reduceLeDiff, reduceCtorEq, Nat.reduceSub, Nat.reduceMul, Int.reduceToNat, Int.reduceLT, Int.reduceLE, TES, pe_byteAt_eq, pe_isQuote_eq, pe_PlainFirst_i_eq, pe_gapAt_eq, pe_isFlow_eq, XRE, XR, XRH, flt, atR, tellR, textR, XCut, ↓xguard_on, ↓xguard_no, ↓xguard_g0, Bool.not_true, Bool.not_false]
    obtain ⟨g, hg⟩ : ∃ g, g = gapR s x := ⟨_, rfl⟩
    refine XCalls.mut (rgap s x fr la ⟨hs, hxz, hxo.pos⟩) rfl [0, 1, 2, 3, 4] (by simp [mapHL, SV.mapH, muL]) (by simp only [ctxMap, at_cons_zero, at_cons_succ, and_true, List.length_cons, List.length_nil]; exact ⟨by omega, soLe_blk (by simp [mapHL, SV.mapH, muL, flt, atR, tellR, textR]), by omega, soLe_same fun _ => rfl, by omega, soLe_same fun _ => rfl, by omega, soLe_map, by omega, soLe_same fun _ => rfl⟩) (by decide) ?_
    simp only [↓XC, XV, XT, forall_const, implies_true, reduceIte, Nat.reduceAdd, Nat.reduceLT, Nat.reduceEqDiff, Nat.reduceBEq, Nat.reduceLeDiff, reduceCtorEq, Nat.reduceSub, Nat.reduceMul, Int.reduceToNat, Int.reduceLT, Int.reduceLE, TES, pe_byteAt_eq, pe_isQuote_eq, pe_PlainFirst_i_eq, pe_gapAt_eq, pe_isFlow_eq, XRE, XR, XRH, flt, atR, tellR, textR, XCut, XM]
    rw [← hg]
    rw [if_neg (by simpa using hxz), ← hg] at e0
    by_cases hgz : g.cd = 0
    · simp only [decide_eq_true hgz]
      simp only [↓XC, XV, XT, forall_const, implies_true, reduceIte, Nat.reduceAdd, Nat.reduceLT, Nat.reduceEqDiff, Nat.reduceBEq, Nat.reduceLeDiff, reduceCtorEq, Nat.reduceSub, Nat.reduceMul, Int.reduceToNat, Int.reduceLT, Int.reduceLE, TES, pe_byteAt_eq, pe_isQuote_eq, pe_PlainFirst_i_eq, pe_gapAt_eq, pe_isFlow_eq, XRE, XR, XRH, flt, atR, tellR, textR, XCut, ↓xguard_on, ↓xguard_no, ↓xguard_g0, Bool.not_true, Bool.not_false]
      have hgo : Ok s g := by rw [hg]; exact hxo.gap (by rw [← hg]; exact hgz)
      have hgd : g.dp = r.dp := by
        obtain ⟨e9, h9⟩ := gapR_ok (s := s) (r := x) (by rw [← hg]; exact hgz)
        rw [hg, e9]; exact hst.dp
      have hgp : g.pos < s.length := by
        obtain ⟨e9, h9⟩ := gapR_ok (s := s) (r := x) (by rw [← hg]; exact hgz)
        rw [hg, e9]; exact h9
      have hgsz := hgo.size hs
      rw [if_neg (by simpa using hgz)] at e0
      have ep : ((g.pos : Int) + 1).toNat = g.pos + 1 := by omega
      have es : byt s (spot s ((g.pos : Int) + 1)) = byt s (g.pos + 1) := by rw [byt_spot (by omega)]; rfl
      rw [es, ep, ← byt_lt hgp]
      have hQ : (!decide (byt s g.pos = 58) || !(gap s (g.pos + 1) || flw (byt s (g.pos + 1)) || (byt s F.pos == 39 || byt s F.pos == 34))) = !decide (byt s g.pos = 58 ∧ (gap s (g.pos + 1) || flw (byt s (g.pos + 1)) || isQu (byt s F.pos)) = true) := by
        rw [Bool.decide_and, Bool.not_and, Bool.decide_eq_true]; rfl
      rw [hQ]
      refine ⟨by decide +kernel, Chk.mk (by simp only [inR]; omega) fun _ => Chk.mk ⟨hs, by omega⟩ fun _ => Chk.mk (fun _ => (by simp only [inR]; omega)) fun _ => Chk.mk (fun h => ⟨⟨h, h⟩, hs⟩) fun _ => ⟨by decide +kernel, Chk.mk (by omega) fun _ => ⟨fun hc => ?_, fun hc => Chk.mk (by simp only [inR]; omega) fun _ => ?_⟩⟩⟩
      · have hc' := of_decide_eq_false (by simpa only [Bool.not_eq_true'] using hc)
        rw [e0, paK, if_neg hc']
        refine XCalls.reb (rtext s g fr la 1 [] false [] [] 0 0 ⟨by omega, hgo.dn, hgo.bs⟩) [0, 1, 2, 3, 4] (by simp [mapHL, SV.mapH, muL]) (by simp only [ctxMap, at_cons_zero, at_cons_succ, and_true, List.length_cons, List.length_nil]; exact ⟨by omega, soLe_blk (by simp [mapHL, SV.mapH, muL, flt, atR, tellR, textR]), by omega, soLe_same fun _ => rfl, by omega, soLe_same fun _ => rfl, by omega, soLe_map, by omega, soLe_same fun _ => rfl⟩) (by decide) (by simp [newRw, SO.ro]) (by decide) (by simp [cleanC, upds, cleanO, noHL, noH, SO.ro, litEl]) ?_
        simp only [↓XC, XV, XT, forall_const, implies_true, reduceIte, Nat.reduceAdd, Nat.reduceLT, Nat.reduceEqDiff, Nat.reduceBEq, Nat.reduceLeDiff, reduceCtorEq, Nat.reduceSub, Nat.reduceMul, Int.reduceToNat, Int.reduceLT, Int.reduceLE, TES, pe_byteAt_eq, pe_isQuote_eq, pe_PlainFirst_i_eq, pe_gapAt_eq, pe_isFlow_eq, XRE, XR, XRH, flt, atR, tellR, textR, XCut, XM]
        try simp only [textR, tellR, List.length_append, List.length_cons, List.length_nil, Nat.zero_add]
        exact ⟨[0, 1, 2, 3, 4], by decide, by simp only [entCtx, at_cons_zero, at_cons_succ, and_true, true_and]; exact ⟨soLe_blk (by simp [mapHL, SV.mapH, muL, flt, atR, tellR, textR]), soLe_same fun _ => rfl, soLe_same fun _ => rfl, soLe_map, soLe_same fun _ => rfl⟩, by simp only [↓XC, XV, XT, forall_const, implies_true, reduceIte, Nat.reduceAdd, Nat.reduceLT, Nat.reduceEqDiff, Nat.reduceBEq, Nat.reduceLeDiff, reduceCtorEq, Nat.reduceSub, Nat.reduceMul, Int.reduceToNat, Int.reduceLT, Int.reduceLE]; try simp [muL, SV.mapH, mapHL, hgz], by simp [newRw, SO.ro], by simp⟩
      · obtain ⟨h, hh⟩ : ∃ h, h = gapR s (atR g (g.pos + 1)) := ⟨_, rfl⟩
        have hc' := of_decide_eq_true (by simpa only [Bool.not_eq_false'] using hc)
        rw [paK, if_pos hc', paV, ← hh] at e0
        refine XCalls.mut (rgap s (atR g (g.pos + 1)) fr la ⟨hs, hgz, hgp⟩) rfl [0, 1, 2, 3, 4] (by simp [mapHL, SV.mapH, muL]) (by simp only [ctxMap, at_cons_zero, at_cons_succ, and_true, List.length_cons, List.length_nil]; exact ⟨by omega, soLe_blk (by simp [mapHL, SV.mapH, muL, flt, atR, tellR, textR]), by omega, soLe_same fun _ => rfl, by omega, soLe_same fun _ => rfl, by omega, soLe_map, by omega, soLe_same fun _ => rfl⟩) (by decide) ?_
        simp only [↓XC, XV, XT, forall_const, implies_true, reduceIte, Nat.reduceAdd, Nat.reduceLT, Nat.reduceEqDiff, Nat.reduceBEq, Nat.reduceLeDiff, reduceCtorEq, Nat.reduceSub, Nat.reduceMul, Int.reduceToNat, Int.reduceLT, Int.reduceLE, TES, pe_byteAt_eq, pe_isQuote_eq, pe_PlainFirst_i_eq, pe_gapAt_eq, pe_isFlow_eq, XRE, XR, XRH, flt, tellR, textR, XCut, XM]
        rw [← hh]
        refine ⟨fun hz => ?_, fun hz => ?_⟩
        · have hz' : ¬ h.cd = 0 := by simpa using hz
          rw [e0, if_pos hz', decide_eq_false hz']
          exact ⟨[0, 1, 2, 3, 4], by decide, by simp only [entCtx, at_cons_zero, at_cons_succ, and_true, true_and]; exact ⟨soLe_blk (by simp [mapHL, SV.mapH, muL, flt, atR, tellR, textR]), soLe_same fun _ => rfl, soLe_same fun _ => rfl, soLe_map, soLe_same fun _ => rfl⟩, by simp only [↓XC, XV, XT, forall_const, implies_true, reduceIte, Nat.reduceAdd, Nat.reduceLT, Nat.reduceEqDiff, Nat.reduceBEq, Nat.reduceLeDiff, reduceCtorEq, Nat.reduceSub, Nat.reduceMul, Int.reduceToNat, Int.reduceLT, Int.reduceLE]; try first | rfl | simp [muL, SV.mapH, mapHL], by simp [newRw, SO.ro], by simp⟩
        · have hz' : h.cd = 0 := by simpa using hz
          obtain ⟨e9, h9⟩ := gapR_ok (s := s) (r := atR g (g.pos + 1)) (by rw [← hh]; exact hz')
          rw [← hh] at e9
          have hho : Ok s h := by rw [hh]; exact (hgo.at (q := g.pos + 1) (by omega) hgp).gap (by rw [← hh]; exact hz')
          have hhd : h.dp = r.dp := by rw [e9]; exact hgd
          have hhp : h.pos < s.length := by rw [e9]; exact h9
          have hhsz := hho.size hs
          rw [if_neg (by simpa using hz')] at e0
          rw [← byt_lt hhp, ← Bool.decide_or]
          refine ⟨by decide +kernel, Chk.mk (by omega) fun _ => ⟨fun hb => ?_, fun hb => ?_⟩⟩
          · rw [e0, if_pos (of_decide_eq_true hb)]
            refine XCalls.reb (rtext s h fr la 1 [] false [] [] 0 0 ⟨by omega, hho.dn, hho.bs⟩) [0, 1, 2, 3, 4] (by simp [mapHL, SV.mapH, muL]) (by simp only [ctxMap, at_cons_zero, at_cons_succ, and_true, List.length_cons, List.length_nil]; exact ⟨by omega, soLe_blk (by simp [mapHL, SV.mapH, muL, flt, atR, tellR, textR]), by omega, soLe_same fun _ => rfl, by omega, soLe_same fun _ => rfl, by omega, soLe_map, by omega, soLe_same fun _ => rfl⟩) (by decide) (by simp [newRw, SO.ro]) (by decide) (by simp [cleanC, upds, cleanO, noHL, noH, SO.ro, litEl]) ?_
            simp only [↓XC, XV, XT, forall_const, implies_true, reduceIte, Nat.reduceAdd, Nat.reduceLT, Nat.reduceEqDiff, Nat.reduceBEq, Nat.reduceLeDiff, reduceCtorEq, Nat.reduceSub, Nat.reduceMul, Int.reduceToNat, Int.reduceLT, Int.reduceLE, TES, pe_byteAt_eq, pe_isQuote_eq, pe_PlainFirst_i_eq, pe_gapAt_eq, pe_isFlow_eq, XRE, XR, XRH, flt, atR, tellR, textR, XCut, XM]
            try simp only [textR, tellR, List.length_append, List.length_cons, List.length_nil, Nat.zero_add]
            exact ⟨[0, 1, 2, 3, 4], by decide, by simp only [entCtx, at_cons_zero, at_cons_succ, and_true, true_and]; exact ⟨soLe_blk (by simp [mapHL, SV.mapH, muL, flt, atR, tellR, textR]), soLe_same fun _ => rfl, soLe_same fun _ => rfl, soLe_map, soLe_same fun _ => rfl⟩, by simp only [↓XC, XV, XT, forall_const, implies_true, reduceIte, Nat.reduceAdd, Nat.reduceLT, Nat.reduceEqDiff, Nat.reduceBEq, Nat.reduceLeDiff, reduceCtorEq, Nat.reduceSub, Nat.reduceMul, Int.reduceToNat, Int.reduceLT, Int.reduceLE]; try simp [muL, SV.mapH, mapHL, hz'], by simp [newRw, SO.ro], by simp⟩
          · rw [e0, if_neg (of_decide_eq_false hb)]
            have hN := HS h hho hhd
            unfold NodeC rdC at hN
            refine XCalls.reb (hN) [0, 1, 2, 3, 4] (by simp [mapHL, SV.mapH, muL]) (by simp only [ctxMap, at_cons_zero, at_cons_succ, and_true, List.length_cons, List.length_nil]; exact ⟨by omega, soLe_blk (by simp [mapHL, SV.mapH, muL, flt, atR, tellR, textR]), by omega, soLe_same fun _ => rfl, by omega, soLe_same fun _ => rfl, by omega, soLe_map, by omega, soLe_same fun _ => rfl⟩) (by decide) (by simp [newRw, SO.ro]) (by decide) (by simp [cleanC, upds, cleanO, noHL, noH, SO.ro, litEl]) ?_
            simp only [↓XC, XV, XT, forall_const, implies_true, reduceIte, Nat.reduceAdd, Nat.reduceLT, Nat.reduceEqDiff, Nat.reduceBEq, Nat.reduceLeDiff, reduceCtorEq, Nat.reduceSub, Nat.reduceMul, Int.reduceToNat, Int.reduceLT, Int.reduceLE, TES, pe_byteAt_eq, pe_isQuote_eq, pe_PlainFirst_i_eq, pe_gapAt_eq, pe_isFlow_eq, XRE, XR, XRH, flt, atR, tellR, textR, XCut, XM]
            exact ⟨[0, 1, 2, 3, 4], by decide, by simp only [entCtx, at_cons_zero, at_cons_succ, and_true, true_and]; exact ⟨soLe_blk (by simp [mapHL, SV.mapH, muL, flt, atR, tellR, textR]), soLe_same fun _ => rfl, soLe_same fun _ => rfl, soLe_map, soLe_same fun _ => rfl⟩, by simp only [↓XC, XV, XT, forall_const, implies_true, reduceIte, Nat.reduceAdd, Nat.reduceLT, Nat.reduceEqDiff, Nat.reduceBEq, Nat.reduceLeDiff, reduceCtorEq, Nat.reduceSub, Nat.reduceMul, Int.reduceToNat, Int.reduceLT, Int.reduceLE]; try first | rfl | simp [muL, SV.mapH, mapHL], by simp [newRw, SO.ro], by simp⟩
    · simp only [decide_eq_false hgz]
      simp only [↓XC, XV, XT, forall_const, implies_true, reduceIte, Nat.reduceAdd, Nat.reduceLT, Nat.reduceEqDiff, Nat.reduceBEq, Nat.reduceLeDiff, reduceCtorEq, Nat.reduceSub, Nat.reduceMul, Int.reduceToNat, Int.reduceLT, Int.reduceLE, TES, pe_byteAt_eq, pe_isQuote_eq, pe_PlainFirst_i_eq, pe_gapAt_eq, pe_isFlow_eq, XRE, XR, XRH, flt, atR, tellR, textR, XCut, ↓xguard_on, ↓xguard_no, ↓xguard_g0, Bool.not_true, Bool.not_false]
      rw [e0, if_pos hgz, decide_eq_false hgz]
      exact ⟨[0, 1, 2, 3, 4], by decide, by simp only [entCtx, at_cons_zero, at_cons_succ, and_true, true_and]; exact ⟨soLe_blk (by simp [mapHL, SV.mapH, muL, flt, atR, tellR, textR]), soLe_same fun _ => rfl, soLe_same fun _ => rfl, soLe_map, soLe_same fun _ => rfl⟩, by simp only [↓XC, XV, XT, forall_const, implies_true, reduceIte, Nat.reduceAdd, Nat.reduceLT, Nat.reduceEqDiff, Nat.reduceBEq, Nat.reduceLeDiff, reduceCtorEq, Nat.reduceSub, Nat.reduceMul, Int.reduceToNat, Int.reduceLT, Int.reduceLE]; try first | rfl | simp [muL, SV.mapH, mapHL], by simp [newRw, SO.ro], by simp⟩
  · simp only [decide_eq_false hxz]
    simp only [↓XC, XV, XT, forall_const, implies_true, reduceIte, Nat.reduceAdd, Nat.reduceLT, Nat.reduceEqDiff, Nat.reduceBEq, Nat.reduceLeDiff, reduceCtorEq, Nat.reduceSub, Nat.reduceMul, Int.reduceToNat, Int.reduceLT, Int.reduceLE, TES, pe_byteAt_eq, pe_isQuote_eq, pe_PlainFirst_i_eq, pe_gapAt_eq, pe_isFlow_eq, XRE, XR, XRH, flt, atR, tellR, textR, XCut, ↓xguard_on, ↓xguard_no, ↓xguard_g0, Bool.not_true, Bool.not_false]
    rw [e0, if_pos hxz, decide_eq_false hxz]
    exact ⟨[0, 1, 2, 3, 4], by decide, by simp only [entCtx, at_cons_zero, at_cons_succ, and_true, true_and]; exact ⟨soLe_blk (by simp [mapHL, SV.mapH, muL, flt, atR, tellR, textR]), soLe_same fun _ => rfl, soLe_same fun _ => rfl, soLe_map, soLe_same fun _ => rfl⟩, by simp only [↓XC, XV, XT, forall_const, implies_true, reduceIte, Nat.reduceAdd, Nat.reduceLT, Nat.reduceEqDiff, Nat.reduceBEq, Nat.reduceLeDiff, reduceCtorEq, Nat.reduceSub, Nat.reduceMul, Int.reduceToNat, Int.reduceLT, Int.reduceLE]; try first | rfl | simp [muL, SV.mapH, mapHL], by simp [newRw, SO.ro], by simp⟩
end Go.T77
