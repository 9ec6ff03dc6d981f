/- Own text: part FlowN. -/
import Derived.Test.YtkbcappnemjjnaaGreatBaseE
import Derived.Test.YtkbcappnemjjnaaGreatTypes2
import Derived.Test.YtkbcappnemjjnaaGreatTextA
import Derived.Test.YtkbcappnemjjnaaGreatEventA
import Derived.Test.YtkbcappnemjjnaaGreatLineA
import Derived.Test.YtkbcappnemjjnaaGreatRuneA
import Derived.Test.YtkbcappnemjjnaaGreatFoldA
import Derived.Test.YtkbcappnemjjnaaGreatQuotA
import Derived.Test.YtkbcappnemjjnaaGreatQuotB
import Derived.Test.YtkbcappnemjjnaaGreatFlowA
import Derived.Test.YtkbcappnemjjnaaGreatFlowB
import Derived.Test.YtkbcappnemjjnaaGreatFlowC
import Derived.Test.YtkbcappnemjjnaaGreatFlowJ
import Derived.Test.YtkbcappnemjjnaaGreatFlowK
import Derived.Test.YtkbcappnemjjnaaGreatFlowL
import Derived.Test.YtkbcappnemjjnaaGreatBaseF
set_option linter.unusedVariables false
set_option linter.unusedSimpArgs false
namespace Go.T84
open Go.Proofs Go.Vg Go.RowKit Go.TT Go.Pl Go.T8 Go.T12 Go.T60 Go.T61 Go.T62 Go.T63 Go.T64 Go.T70 Go.T71 Go.T72 Go.T80 Go.T81 Go.T82
set_option linter.unusedVariables false
set_option linter.unusedSimpArgs false
set_option maxRecDepth 10000
set_option maxHeartbeats 4000000
theorem snode (s : Bs) (r : Rd) (pr : Int) (sb : Rd → Rd) (HL : ∀ (r1 : Rd) (pr1 : Int) (ha : Bool) (an tg : Bs) (pe : Nat), Ok s r1 → r1.dp = r.dp → byt s r1.pos = 91 → NodeS Tryz.prog 23 s [.agg [.i .i64 0, .i .i64 0, .b false, .s [], .s an, .s tg, .i .i64 0, .i .i64 0]] pr1 r1 (coR s sb 93 3 r1 (⟨ha, an, tg, pe⟩ : Pp))) (HM : ∀ (r1 : Rd) (pr1 : Int) (ha : Bool) (an tg : Bs) (pe : Nat), Ok s r1 → r1.dp = r.dp → byt s r1.pos = 123 → NodeS Tryz.prog 24 s [.agg [.i .i64 0, .i .i64 0, .b false, .s [], .s an, .s tg, .i .i64 0, .i .i64 0]] pr1 r1 (coR s (paR s sb) 125 4 r1 (⟨ha, an, tg, pe⟩ : Pp))) (hp : s.length ≤ 1048576 ∧ Ok s r) : FnK Tryz.prog 11 1 [.ptr 0 0 0] [some (.blk false [.s s, .i .i64 ((r).pos : Nat), .slc 1 0 (r).ev.length, .i .i64 (r).cd, .i .i64 ((r).pl : Nat), .i .i64 ((r).dp : Nat), .slc 2 0 (nmS (r).ev (r).dn (r).bs).length, .slc 3 0 (r).hd.length, .i .i64 pr]), some (.row false 8 (r).ev.length (rowE evc evz (r).ev)), some (.row false 2 (nmS (r).ev (r).dn (r).bs).length (rowE nac ([], false) (nmS (r).ev (r).dn (r).bs))), some (.row false 2 (r).hd.length (rowE hdc hdz (r).hd))] (fun z c => ∃ (a pr' : Int), (((noR s sb r)).cd = 0 → a = ((((noR s sb r)).pos : Nat) : Int)) ∧ z = .tup [] ∧ c = [some (.blk false [.s s, .i .i64 a, .slc 1 0 ((noR s sb r)).ev.length, .i .i64 ((noR s sb r)).cd, .i .i64 (((noR s sb r)).pl : Nat), .i .i64 (((noR s sb r)).dp : Nat), .slc 2 0 (nmS ((noR s sb r)).ev ((noR s sb r)).dn ((noR s sb r)).bs).length, .slc 3 0 ((noR s sb r)).hd.length, .i .i64 pr']), some (.row false 8 ((noR s sb r)).ev.length (rowE evc evz ((noR s sb r)).ev)), some (.row false 2 (nmS ((noR s sb r)).ev ((noR s sb r)).dn ((noR s sb r)).bs).length (rowE nac ([], false) (nmS ((noR s sb r)).ev ((noR s sb r)).dn ((noR s sb r)).bs))), some (.row false 2 ((noR s sb r)).hd.length (rowE hdc hdz ((noR s sb r)).hd))]) := by
  refine FnK.ofQ (cf := mkCf Tryz.prog te [] 57 1 false (fun _ => false) (kp [(0, [0, 2, 3]), (1, [0, 2, 3, 14]), (2, [0, 2, 3, 4]), (3, []), (4, [0, 2, 3, 4, 23]), (5, []), (6, [0, 2, 3, 4, 29]), (7, []), (8, [0, 2, 3, 4, 35]), (9, [0, 2, 40]), (10, [])]) [] []) (mkCf_ok te_ok (l := []) (trivial) mixed_ok) Tryz.func11 rfl rfl rfl (by simp [mkCf]) (by simp [mkCf]) (rs := []) rfl 100000 ?_
  simp only [↓XC, XV, XT, forall_const, implies_true, reduceIte, Nat.reduceAdd, Nat.reduceLT, Nat.reduceEqDiff, Nat.reduceBEq, Nat.reduceLeDiff, reduceCtorEq, Nat.reduceSub, Nat.reduceMul, Int.reduceToNat, Int.reduceLT, Int.reduceLE, TES, XRE, XR, XRH, XRN, flt, atR, tellR, textR, ↓xguard_on, ↓xguard_no, ↓xguard_g0, Bool.not_true, Bool.not_false]
  obtain ⟨hs, ho⟩ := hp
  have hsz := ho.size hs
  have hcd := ho.cd
  obtain ⟨R, hR⟩ : ∃ R, R = noR s sb r := ⟨_, rfl⟩
  rw [← hR]
  refine XCalls.rebQ (sprops s r pr true ⟨hs, hcd, ho.pos, ho.hd, ho.pf⟩) [0, 1, 2, 3] (by simp [mapHL, SV.mapH, muL]) (by simp only [ctxMap, at_cons_zero, at_cons_succ, and_true, List.length_cons, List.length_nil]; exact ⟨by omega, soLe_blk (by simp [mapHL, SV.mapH, muL, flt, atR, tellR, textR]), by omega, soLe_same fun _ => rfl, by omega, soLe_same fun _ => rfl, by omega, soLe_same fun _ => rfl⟩) (by decide) (by simp [newRw, SO.ro]) (by decide) (by simp [cleanC, upds, cleanO, noHL, noH, SO.ro, litEl]) ?_
  rintro z c ⟨pr1, an, tg, ha, hq, rfl, rfl⟩
  simp only [↓XC, XV, XT, forall_const, implies_true, reduceIte, Nat.reduceAdd, Nat.reduceLT, Nat.reduceEqDiff, Nat.reduceBEq, Nat.reduceLeDiff, reduceCtorEq, Nat.reduceSub, Nat.reduceMul, Int.reduceToNat, Int.reduceLT, Int.reduceLE, TES, XRE, XR, XRH, XRN, flt, atR, tellR, textR, ↓xguard_on, ↓xguard_no, ↓xguard_g0, Bool.not_true, Bool.not_false, XM]
  obtain ⟨F, hF⟩ : ∃ F, F = prZ s true r := ⟨_, rfl⟩
  have hF' : F = prF s r := hF
  rw [← hF] at hq ⊢
  refine ⟨fun h => ?_, fun h => ?_⟩
  · have hFz : ¬ F.cd = 0 := by simpa using h
    have eR : R = F := by rw [hR]; unfold noR; rw [← hF', if_pos hFz]
    rw [eR]
    refine ⟨.tup [], [some (.blk false [.s s, .i .i64 (((F).pos : Nat) : Int), .slc 1 0 (F).ev.length, .i .i64 (F).cd, .i .i64 ((F).pl : Nat), .i .i64 ((F).dp : Nat), .slc 2 0 (nmS (F).ev (F).dn (F).bs).length, .slc 3 0 (F).hd.length, .i .i64 pr1]), some (.row false 8 (F).ev.length (rowE evc evz (F).ev)), some (.row false 2 (nmS (F).ev (F).dn (F).bs).length (rowE nac ([], false) (nmS (F).ev (F).dn (F).bs))), some (.row false 2 (F).hd.length (rowE hdc hdz (F).hd))], ⟨(((F).pos : Nat) : Int), pr1, fun _ => rfl, rfl, rfl⟩, ?_⟩
    exact ⟨[0, 1, 2, 3], by decide, by simp only [entCtx, at_cons_zero, at_cons_succ, and_true, true_and]; exact ⟨soLe_blk (by simp [mapHL, SV.mapH, muL, flt, atR, tellR, textR]), soLe_same fun _ => rfl, soLe_same fun _ => rfl, soLe_same fun _ => rfl⟩, by simp only [↓XC, XV, XT, forall_const, implies_true, reduceIte, Nat.reduceAdd, Nat.reduceLT, Nat.reduceEqDiff, Nat.reduceBEq, Nat.reduceLeDiff, reduceCtorEq, Nat.reduceSub, Nat.reduceMul, Int.reduceToNat, Int.reduceLT, Int.reduceLE]; try first | rfl | simp [muL, SV.mapH, mapHL], by simp [newRw, SO.ro], by simp⟩
  have hFz : F.cd = 0 := by simpa using h
  obtain ⟨_, ean, etg, eha⟩ := hq hFz
  subst ean etg eha
  obtain ⟨p, hpp⟩ : ∃ p, p = prP s true r := ⟨_, rfl⟩
  rw [← hpp]
  have hFo : Ok s F := by rw [hF']; exact ho.prF (by rw [← hF']; exact hFz)
  have hFd : F.dp = r.dp := by
    obtain ⟨q9, e9, _⟩ := prF_ok ho.pos hcd (show (prF s r).cd = 0 by rw [← hF']; exact hFz)
    rw [hF', e9]; rfl
  have hFsz := hFo.size hs
  have hRb : R = boR s sb F p := by rw [hR]; unfold noR; rw [← hF', if_neg (by simpa using hFz), ← hpp]
  refine XCalls.mut (sbyte s F pr1 hs) rfl [0, 1, 2, 3] (by simp [mapHL, SV.mapH, muL]) (by simp only [ctxMap, at_cons_zero, at_cons_succ, and_true, List.length_cons, List.length_nil]; exact ⟨by omega, soLe_blk (by simp [mapHL, SV.mapH, muL, flt, atR, tellR, textR]), by omega, soLe_same fun _ => rfl, by omega, soLe_same fun _ => rfl, by omega, soLe_same fun _ => rfl⟩) (by decide) ?_
  simp only [↓XC, XV, XT, forall_const, implies_true, reduceIte, Nat.reduceAdd, Nat.reduceLT, Nat.reduceEqDiff, Nat.reduceBEq, Nat.reduceLeDiff, reduceCtorEq, Nat.reduceSub, Nat.reduceMul, Int.reduceToNat, Int.reduceLT, Int.reduceLE, TES, XRE, XR, XRH, XRN, flt, atR, tellR, textR, ↓xguard_on, ↓xguard_no, ↓xguard_g0, Bool.not_true, Bool.not_false, XM]
  simp only [by0 (show (0 : Int) < 91 by decide)]
  simp only [by0 (show (0 : Int) < 123 by decide)]
  refine ⟨fun h91 => ?_, fun h91 => ⟨fun h123 => ?_, fun h123 => ?_⟩⟩
  · have hN := HL F pr1 p.has p.an p.tg p.en hFo hFd h91
    unfold NodeS spC at hN
    refine XCalls.rebQ (hN) [0, 1, 2, 3] (by simp [mapHL, SV.mapH, muL]) (by simp only [ctxMap, at_cons_zero, at_cons_succ, and_true, List.length_cons, List.length_nil]; exact ⟨by omega, soLe_blk (by simp [mapHL, SV.mapH, muL, flt, atR, tellR, textR]), by omega, soLe_same fun _ => rfl, by omega, soLe_same fun _ => rfl, by omega, soLe_same fun _ => rfl⟩) (by decide) (by simp [newRw, SO.ro]) (by decide) (by simp [cleanC, upds, cleanO, noHL, noH, SO.ro, litEl]) ?_
    rintro z c ⟨a2, pr2, ha2, rfl, rfl⟩
    simp only [↓XC, XV, XT, forall_const, implies_true, reduceIte, Nat.reduceAdd, Nat.reduceLT, Nat.reduceEqDiff, Nat.reduceBEq, Nat.reduceLeDiff, reduceCtorEq, Nat.reduceSub, Nat.reduceMul, Int.reduceToNat, Int.reduceLT, Int.reduceLE, TES, XRE, XR, XRH, XRN, flt, atR, tellR, textR, ↓xguard_on, ↓xguard_no, ↓xguard_g0, Bool.not_true, Bool.not_false, XM]
    have eR : R = coR s sb 93 3 F (⟨p.has, p.an, p.tg, p.en⟩ : Pp) := by rw [hRb]; unfold boR; rw [if_pos h91]
    rw [eR]
    refine ⟨.tup [], [some (.blk false [.s s, .i .i64 a2, .slc 1 0 (coR s sb 93 3 F (⟨p.has, p.an, p.tg, p.en⟩ : Pp)).ev.length, .i .i64 (coR s sb 93 3 F (⟨p.has, p.an, p.tg, p.en⟩ : Pp)).cd, .i .i64 ((coR s sb 93 3 F (⟨p.has, p.an, p.tg, p.en⟩ : Pp)).pl : Nat), .i .i64 ((coR s sb 93 3 F (⟨p.has, p.an, p.tg, p.en⟩ : Pp)).dp : Nat), .slc 2 0 (nmS (coR s sb 93 3 F (⟨p.has, p.an, p.tg, p.en⟩ : Pp)).ev (coR s sb 93 3 F (⟨p.has, p.an, p.tg, p.en⟩ : Pp)).dn (coR s sb 93 3 F (⟨p.has, p.an, p.tg, p.en⟩ : Pp)).bs).length, .slc 3 0 (coR s sb 93 3 F (⟨p.has, p.an, p.tg, p.en⟩ : Pp)).hd.length, .i .i64 pr2]), some (.row false 8 (coR s sb 93 3 F (⟨p.has, p.an, p.tg, p.en⟩ : Pp)).ev.length (rowE evc evz (coR s sb 93 3 F (⟨p.has, p.an, p.tg, p.en⟩ : Pp)).ev)), some (.row false 2 (nmS (coR s sb 93 3 F (⟨p.has, p.an, p.tg, p.en⟩ : Pp)).ev (coR s sb 93 3 F (⟨p.has, p.an, p.tg, p.en⟩ : Pp)).dn (coR s sb 93 3 F (⟨p.has, p.an, p.tg, p.en⟩ : Pp)).bs).length (rowE nac ([], false) (nmS (coR s sb 93 3 F (⟨p.has, p.an, p.tg, p.en⟩ : Pp)).ev (coR s sb 93 3 F (⟨p.has, p.an, p.tg, p.en⟩ : Pp)).dn (coR s sb 93 3 F (⟨p.has, p.an, p.tg, p.en⟩ : Pp)).bs))), some (.row false 2 (coR s sb 93 3 F (⟨p.has, p.an, p.tg, p.en⟩ : Pp)).hd.length (rowE hdc hdz (coR s sb 93 3 F (⟨p.has, p.an, p.tg, p.en⟩ : Pp)).hd))], ⟨a2, pr2, ha2, rfl, rfl⟩, ?_⟩
    exact ⟨[0, 1, 2, 3], by decide, by simp only [entCtx, at_cons_zero, at_cons_succ, and_true, true_and]; exact ⟨soLe_blk (by simp [mapHL, SV.mapH, muL, flt, atR, tellR, textR]), soLe_same fun _ => rfl, soLe_same fun _ => rfl, soLe_same fun _ => rfl⟩, by simp only [↓XC, XV, XT, forall_const, implies_true, reduceIte, Nat.reduceAdd, Nat.reduceLT, Nat.reduceEqDiff, Nat.reduceBEq, Nat.reduceLeDiff, reduceCtorEq, Nat.reduceSub, Nat.reduceMul, Int.reduceToNat, Int.reduceLT, Int.reduceLE]; try first | rfl | simp [muL, SV.mapH, mapHL], by simp [newRw, SO.ro], by simp⟩
  · have hN := HM F pr1 p.has p.an p.tg p.en hFo hFd h123
    unfold NodeS spC at hN
    refine XCalls.rebQ (hN) [0, 1, 2, 3] (by simp [mapHL, SV.mapH, muL]) (by simp only [ctxMap, at_cons_zero, at_cons_succ, and_true, List.length_cons, List.length_nil]; exact ⟨by omega, soLe_blk (by simp [mapHL, SV.mapH, muL, flt, atR, tellR, textR]), by omega, soLe_same fun _ => rfl, by omega, soLe_same fun _ => rfl, by omega, soLe_same fun _ => rfl⟩) (by decide) (by simp [newRw, SO.ro]) (by decide) (by simp [cleanC, upds, cleanO, noHL, noH, SO.ro, litEl]) ?_
    rintro z c ⟨a2, pr2, ha2, rfl, rfl⟩
    simp only [↓XC, XV, XT, forall_const, implies_true, reduceIte, Nat.reduceAdd, Nat.reduceLT, Nat.reduceEqDiff, Nat.reduceBEq, Nat.reduceLeDiff, reduceCtorEq, Nat.reduceSub, Nat.reduceMul, Int.reduceToNat, Int.reduceLT, Int.reduceLE, TES, XRE, XR, XRH, XRN, flt, atR, tellR, textR, ↓xguard_on, ↓xguard_no, ↓xguard_g0, Bool.not_true, Bool.not_false, XM]
    have eR : R = coR s (paR s sb) 125 4 F (⟨p.has, p.an, p.tg, p.en⟩ : Pp) := by rw [hRb]; unfold boR; rw [if_neg h91, if_pos h123]
    rw [eR]
    refine ⟨.tup [], [some (.blk false [.s s, .i .i64 a2, .slc 1 0 (coR s (paR s sb) 125 4 F (⟨p.has, p.an, p.tg, p.en⟩ : Pp)).ev.length, .i .i64 (coR s (paR s sb) 125 4 F (⟨p.has, p.an, p.tg, p.en⟩ : Pp)).cd, .i .i64 ((coR s (paR s sb) 125 4 F (⟨p.has, p.an, p.tg, p.en⟩ : Pp)).pl : Nat), .i .i64 ((coR s (paR s sb) 125 4 F (⟨p.has, p.an, p.tg, p.en⟩ : Pp)).dp : Nat), .slc 2 0 (nmS (coR s (paR s sb) 125 4 F (⟨p.has, p.an, p.tg, p.en⟩ : Pp)).ev (coR s (paR s sb) 125 4 F (⟨p.has, p.an, p.tg, p.en⟩ : Pp)).dn (coR s (paR s sb) 125 4 F (⟨p.has, p.an, p.tg, p.en⟩ : Pp)).bs).length, .slc 3 0 (coR s (paR s sb) 125 4 F (⟨p.has, p.an, p.tg, p.en⟩ : Pp)).hd.length, .i .i64 pr2]), some (.row false 8 (coR s (paR s sb) 125 4 F (⟨p.has, p.an, p.tg, p.en⟩ : Pp)).ev.length (rowE evc evz (coR s (paR s sb) 125 4 F (⟨p.has, p.an, p.tg, p.en⟩ : Pp)).ev)), some (.row false 2 (nmS (coR s (paR s sb) 125 4 F (⟨p.has, p.an, p.tg, p.en⟩ : Pp)).ev (coR s (paR s sb) 125 4 F (⟨p.has, p.an, p.tg, p.en⟩ : Pp)).dn (coR s (paR s sb) 125 4 F (⟨p.has, p.an, p.tg, p.en⟩ : Pp)).bs).length (rowE nac ([], false) (nmS (coR s (paR s sb) 125 4 F (⟨p.has, p.an, p.tg, p.en⟩ : Pp)).ev (coR s (paR s sb) 125 4 F (⟨p.has, p.an, p.tg, p.en⟩ : Pp)).dn (coR s (paR s sb) 125 4 F (⟨p.has, p.an, p.tg, p.en⟩ : Pp)).bs))), some (.row false 2 (coR s (paR s sb) 125 4 F (⟨p.has, p.an, p.tg, p.en⟩ : Pp)).hd.length (rowE hdc hdz (coR s (paR s sb) 125 4 F (⟨p.has, p.an, p.tg, p.en⟩ : Pp)).hd))], ⟨a2, pr2, ha2, rfl, rfl⟩, ?_⟩
    exact ⟨[0, 1, 2, 3], by decide, by simp only [entCtx, at_cons_zero, at_cons_succ, and_true, true_and]; exact ⟨soLe_blk (by simp [mapHL, SV.mapH, muL, flt, atR, tellR, textR]), soLe_same fun _ => rfl, soLe_same fun _ => rfl, soLe_same fun _ => rfl⟩, by simp only [↓XC, XV, XT, forall_const, implies_true, reduceIte, Nat.reduceAdd, Nat.reduceLT, Nat.reduceEqDiff, Nat.reduceBEq, Nat.reduceLeDiff, reduceCtorEq, Nat.reduceSub, Nat.reduceMul, Int.reduceToNat, Int.reduceLT, Int.reduceLE]; try first | rfl | simp [muL, SV.mapH, mapHL], by simp [newRw, SO.ro], by simp⟩
  have hRs : R = scR s F p 93 125 := by rw [hRb]; unfold boR; rw [if_neg h91, if_neg h123]
  refine XCalls.reb (sscalar s F pr1 0 0 [] p.an p.tg p.has (-1) true ⟨hs, by omega, hFo.dn, hFo.bs, hFz, hFo.pos⟩) [0, 1, 2, 3] (by simp [mapHL, SV.mapH, muL]) (by simp only [ctxMap, at_cons_zero, at_cons_succ, and_true, List.length_cons, List.length_nil]; exact ⟨by omega, soLe_blk (by simp [mapHL, SV.mapH, muL, flt, atR, tellR, textR]), by omega, soLe_same fun _ => rfl, by omega, soLe_same fun _ => rfl, by omega, soLe_same fun _ => rfl⟩) (by decide) (by simp [newRw, SO.ro]) (by decide) (by simp [cleanC, upds, cleanO, noHL, noH, SO.ro, litEl]) ?_
  simp only [↓XC, XV, XT, forall_const, implies_true, reduceIte, Nat.reduceAdd, Nat.reduceLT, Nat.reduceEqDiff, Nat.reduceBEq, Nat.reduceLeDiff, reduceCtorEq, Nat.reduceSub, Nat.reduceMul, Int.reduceToNat, Int.reduceLT, Int.reduceLE, TES, XRE, XR, XRH, XRN, flt, atR, tellR, textR, ↓xguard_on, ↓xguard_no, ↓xguard_g0, Bool.not_true, Bool.not_false, XM]
  refine ⟨fun hb => ?_, fun hb => ?_⟩
  · have eR : R = scX s F (⟨p.has, p.an, p.tg, 0⟩ : Pp) (-1) true := by rw [hRs, scR_x hb]; rfl
    rw [eR]
    refine ⟨.tup [], [some (.blk false [.s s, .i .i64 (((scX s F (⟨p.has, p.an, p.tg, 0⟩ : Pp) (-1) true).pos : Nat) : Int), .slc 1 0 (scX s F (⟨p.has, p.an, p.tg, 0⟩ : Pp) (-1) true).ev.length, .i .i64 (scX s F (⟨p.has, p.an, p.tg, 0⟩ : Pp) (-1) true).cd, .i .i64 ((scX s F (⟨p.has, p.an, p.tg, 0⟩ : Pp) (-1) true).pl : Nat), .i .i64 ((scX s F (⟨p.has, p.an, p.tg, 0⟩ : Pp) (-1) true).dp : Nat), .slc 2 0 (nmS (scX s F (⟨p.has, p.an, p.tg, 0⟩ : Pp) (-1) true).ev (scX s F (⟨p.has, p.an, p.tg, 0⟩ : Pp) (-1) true).dn (scX s F (⟨p.has, p.an, p.tg, 0⟩ : Pp) (-1) true).bs).length, .slc 3 0 (scX s F (⟨p.has, p.an, p.tg, 0⟩ : Pp) (-1) true).hd.length, .i .i64 pr1]), some (.row false 8 (scX s F (⟨p.has, p.an, p.tg, 0⟩ : Pp) (-1) true).ev.length (rowE evc evz (scX s F (⟨p.has, p.an, p.tg, 0⟩ : Pp) (-1) true).ev)), some (.row false 2 (nmS (scX s F (⟨p.has, p.an, p.tg, 0⟩ : Pp) (-1) true).ev (scX s F (⟨p.has, p.an, p.tg, 0⟩ : Pp) (-1) true).dn (scX s F (⟨p.has, p.an, p.tg, 0⟩ : Pp) (-1) true).bs).length (rowE nac ([], false) (nmS (scX s F (⟨p.has, p.an, p.tg, 0⟩ : Pp) (-1) true).ev (scX s F (⟨p.has, p.an, p.tg, 0⟩ : Pp) (-1) true).dn (scX s F (⟨p.has, p.an, p.tg, 0⟩ : Pp) (-1) true).bs))), some (.row false 2 (scX s F (⟨p.has, p.an, p.tg, 0⟩ : Pp) (-1) true).hd.length (rowE hdc hdz (scX s F (⟨p.has, p.an, p.tg, 0⟩ : Pp) (-1) true).hd))], ⟨(((scX s F (⟨p.has, p.an, p.tg, 0⟩ : Pp) (-1) true).pos : Nat) : Int), pr1, fun _ => rfl, rfl, rfl⟩, ?_⟩
    exact ⟨[0, 1, 2, 3], by decide, by simp only [entCtx, at_cons_zero, at_cons_succ, and_true, true_and]; exact ⟨soLe_blk (by simp [mapHL, SV.mapH, muL, flt, atR, tellR, textR]), soLe_same fun _ => rfl, soLe_same fun _ => rfl, soLe_same fun _ => rfl⟩, by simp only [↓XC, XV, XT, forall_const, implies_true, reduceIte, Nat.reduceAdd, Nat.reduceLT, Nat.reduceEqDiff, Nat.reduceBEq, Nat.reduceLeDiff, reduceCtorEq, Nat.reduceSub, Nat.reduceMul, Int.reduceToNat, Int.reduceLT, Int.reduceLE]; try first | rfl | simp [muL, SV.mapH, mapHL], by simp [newRw, SO.ro], by simp⟩
  · obtain ⟨ex, es⟩ := scR_n (p := p) (c1 := 93) (c2 := 125) hb
    rw [← hRs] at es
    rw [show scX s F (⟨p.has, p.an, p.tg, 0⟩ : Pp) (-1) true = F from ex]
    simp only [by0 (show (0 : Int) < 44 by decide)]
    simp only [by0 (show (0 : Int) < 93 by decide)]
    simp only [by0 (show (0 : Int) < 125 by decide)]
    refine ⟨fun hc => ?_, fun hc => ?_⟩
    · rw [if_pos (by simpa [or_assoc] using hc)] at es
      refine XCalls.reb (stext s F pr1 0 0 [] p.an p.tg 1 [] ⟨by omega, hFo.dn, hFo.bs⟩) [0, 1, 2, 3] (by simp [mapHL, SV.mapH, muL]) (by simp only [ctxMap, at_cons_zero, at_cons_succ, and_true, List.length_cons, List.length_nil]; exact ⟨by omega, soLe_blk (by simp [mapHL, SV.mapH, muL, flt, atR, tellR, textR]), by omega, soLe_same fun _ => rfl, by omega, soLe_same fun _ => rfl, by omega, soLe_same fun _ => rfl⟩) (by decide) (by simp [newRw, SO.ro]) (by decide) (by simp [cleanC, upds, cleanO, noHL, noH, SO.ro, litEl]) ?_
      simp only [↓XC, XV, XT, forall_const, implies_true, reduceIte, Nat.reduceAdd, Nat.reduceLT, Nat.reduceEqDiff, Nat.reduceBEq, Nat.reduceLeDiff, reduceCtorEq, Nat.reduceSub, Nat.reduceMul, Int.reduceToNat, Int.reduceLT, Int.reduceLE, TES, XRE, XR, XRH, XRN, flt, atR, tellR, textR, ↓xguard_on, ↓xguard_no, ↓xguard_g0, Bool.not_true, Bool.not_false, XM]
      have eR : R = textR F 1 [] p.an p.tg := es
      rw [eR]
      refine ⟨.tup [], [some (.blk false [.s s, .i .i64 (((textR F 1 [] p.an p.tg).pos : Nat) : Int), .slc 1 0 (textR F 1 [] p.an p.tg).ev.length, .i .i64 (textR F 1 [] p.an p.tg).cd, .i .i64 ((textR F 1 [] p.an p.tg).pl : Nat), .i .i64 ((textR F 1 [] p.an p.tg).dp : Nat), .slc 2 0 (nmS (textR F 1 [] p.an p.tg).ev (textR F 1 [] p.an p.tg).dn (textR F 1 [] p.an p.tg).bs).length, .slc 3 0 (textR F 1 [] p.an p.tg).hd.length, .i .i64 pr1]), some (.row false 8 (textR F 1 [] p.an p.tg).ev.length (rowE evc evz (textR F 1 [] p.an p.tg).ev)), some (.row false 2 (nmS (textR F 1 [] p.an p.tg).ev (textR F 1 [] p.an p.tg).dn (textR F 1 [] p.an p.tg).bs).length (rowE nac ([], false) (nmS (textR F 1 [] p.an p.tg).ev (textR F 1 [] p.an p.tg).dn (textR F 1 [] p.an p.tg).bs))), some (.row false 2 (textR F 1 [] p.an p.tg).hd.length (rowE hdc hdz (textR F 1 [] p.an p.tg).hd))], ⟨(((textR F 1 [] p.an p.tg).pos : Nat) : Int), pr1, fun _ => rfl, rfl, rfl⟩, ?_⟩
      try simp only [textR, tellR, List.length_append, List.length_cons, List.length_nil, Nat.zero_add]
      exact ⟨[0, 1, 2, 3], by decide, by simp only [entCtx, at_cons_zero, at_cons_succ, and_true, true_and]; exact ⟨soLe_blk (by simp [mapHL, SV.mapH, muL, flt, atR, tellR, textR]), soLe_same fun _ => rfl, soLe_same fun _ => rfl, soLe_same fun _ => rfl⟩, by simp only [↓XC, XV, XT, forall_const, implies_true, reduceIte, Nat.reduceAdd, Nat.reduceLT, Nat.reduceEqDiff, Nat.reduceBEq, Nat.reduceLeDiff, reduceCtorEq, Nat.reduceSub, Nat.reduceMul, Int.reduceToNat, Int.reduceLT, Int.reduceLE]; try first | rfl | simp [muL, SV.mapH, mapHL], by simp [newRw, SO.ro], by simp⟩
    · rw [if_neg (by simpa [or_assoc, and_assoc] using hc)] at es
      refine XCalls.mut (sfail s F pr1 10 F.pos hFz) rfl [0, 1, 2, 3] (by simp [mapHL, SV.mapH, muL]) (by simp only [ctxMap, at_cons_zero, at_cons_succ, and_true, List.length_cons, List.length_nil]; exact ⟨by omega, soLe_blk (by simp [mapHL, SV.mapH, muL, flt, atR, tellR, textR]), by omega, soLe_same fun _ => rfl, by omega, soLe_same fun _ => rfl, by omega, soLe_same fun _ => rfl⟩) (by decide) ?_
      simp only [↓XC, XV, XT, forall_const, implies_true, reduceIte, Nat.reduceAdd, Nat.reduceLT, Nat.reduceEqDiff, Nat.reduceBEq, Nat.reduceLeDiff, reduceCtorEq, Nat.reduceSub, Nat.reduceMul, Int.reduceToNat, Int.reduceLT, Int.reduceLE, TES, XRE, XR, XRH, XRN, flt, atR, tellR, textR, ↓xguard_on, ↓xguard_no, ↓xguard_g0, Bool.not_true, Bool.not_false, XM]
      have eR : R = flt F 10 F.pos := es
      rw [eR]
      refine ⟨.tup [], [some (.blk false [.s s, .i .i64 (((flt F 10 F.pos).pos : Nat) : Int), .slc 1 0 (flt F 10 F.pos).ev.length, .i .i64 (flt F 10 F.pos).cd, .i .i64 ((flt F 10 F.pos).pl : Nat), .i .i64 ((flt F 10 F.pos).dp : Nat), .slc 2 0 (nmS (flt F 10 F.pos).ev (flt F 10 F.pos).dn (flt F 10 F.pos).bs).length, .slc 3 0 (flt F 10 F.pos).hd.length, .i .i64 pr1]), some (.row false 8 (flt F 10 F.pos).ev.length (rowE evc evz (flt F 10 F.pos).ev)), some (.row false 2 (nmS (flt F 10 F.pos).ev (flt F 10 F.pos).dn (flt F 10 F.pos).bs).length (rowE nac ([], false) (nmS (flt F 10 F.pos).ev (flt F 10 F.pos).dn (flt F 10 F.pos).bs))), some (.row false 2 (flt F 10 F.pos).hd.length (rowE hdc hdz (flt F 10 F.pos).hd))], ⟨(((flt F 10 F.pos).pos : Nat) : Int), pr1, fun _ => rfl, rfl, rfl⟩, ?_⟩
      exact ⟨[0, 1, 2, 3], by decide, by simp only [entCtx, at_cons_zero, at_cons_succ, and_true, true_and]; exact ⟨soLe_blk (by simp [mapHL, SV.mapH, muL, flt, atR, tellR, textR]), soLe_same fun _ => rfl, soLe_same fun _ => rfl, soLe_same fun _ => rfl⟩, by simp only [↓XC, XV, XT, forall_const, implies_true, reduceIte, Nat.reduceAdd, Nat.reduceLT, Nat.reduceEqDiff, Nat.reduceBEq, Nat.reduceLeDiff, reduceCtorEq, Nat.reduceSub, Nat.reduceMul, Int.reduceToNat, Int.reduceLT, Int.reduceLE]; try first | rfl | simp [muL, SV.mapH, mapHL], by simp [newRw, SO.ro], by simp⟩
theorem spair (s : Bs) (r : Rd) (pr : Int) (sb : Rd → Rd) (HS : ∀ (r1 : Rd) (pr1 : Int), Ok s r1 → r1.dp = r.dp → NodeS Tryz.prog 11 s [] pr1 r1 (sb r1)) (hp : s.length ≤ 1048576 ∧ Ok s r) : FnK Tryz.prog 45 1 [.ptr 0 0 0] [some (.blk false [.s s, .i .i64 ((r).pos : Nat), .slc 1 0 (r).ev.length, .i .i64 (r).cd, .i .i64 ((r).pl : Nat), .i .i64 ((r).dp : Nat), .slc 2 0 (nmS (r).ev (r).dn (r).bs).length, .slc 3 0 (r).hd.length, .i .i64 pr]), some (.row false 8 (r).ev.length (rowE evc evz (r).ev)), some (.row false 2 (nmS (r).ev (r).dn (r).bs).length (rowE nac ([], false) (nmS (r).ev (r).dn (r).bs))), some (.row false 2 (r).hd.length (rowE hdc hdz (r).hd))] (fun z c => ∃ (a pr' : Int), (((paR s sb r)).cd = 0 → a = ((((paR s sb r)).pos : Nat) : Int)) ∧ z = .tup [] ∧ c = [some (.blk false [.s s, .i .i64 a, .slc 1 0 ((paR s sb r)).ev.length, .i .i64 ((paR s sb r)).cd, .i .i64 (((paR s sb r)).pl : Nat), .i .i64 (((paR s sb r)).dp : Nat), .slc 2 0 (nmS ((paR s sb r)).ev ((paR s sb r)).dn ((paR s sb r)).bs).length, .slc 3 0 ((paR s sb r)).hd.length, .i .i64 pr']), some (.row false 8 ((paR s sb r)).ev.length (rowE evc evz ((paR s sb r)).ev)), some (.row false 2 (nmS ((paR s sb r)).ev ((paR s sb r)).dn ((paR s sb r)).bs).length (rowE nac ([], false) (nmS ((paR s sb r)).ev ((paR s sb r)).dn ((paR s sb r)).bs))), some (.row false 2 ((paR s sb r)).hd.length (rowE hdc hdz ((paR s sb r)).hd))]) := by
  refine FnK.ofQ (cf := mkCf Tryz.prog te [] 88 1 false (fun i => i == 8 || i == 12) (kp [(0, [0, 2, 3]), (1, [0, 2, 3, 15]), (2, [0, 2, 3, 4]), (3, [0, 2, 3, 4, 5]), (4, [0, 2, 3, 4, 5, 28]), (5, [0, 2, 5, 42]), (6, []), (7, [0, 5]), (8, [0, 5, 61]), (9, [0, 64]), (10, [0]), (11, [0, 74]), (12, [0, 82]), (13, []), (14, [])]) [8] []) (mkCf_ok te_ok (l := []) (trivial) mixed_ok) Tryz.func45 rfl rfl rfl (by simp [mkCf]) (by simp [mkCf]) (rs := []) rfl 100000 ?_
  simp only [↓XC, XV, XT, forall_const, implies_true, reduceIte, Nat.reduceAdd, Nat.reduceLT, Nat.reduceEqDiff, Nat.reduceBEq, Nat.reduceLeDiff, reduceCtorEq, Nat.reduceSub, Nat.reduceMul, Int.reduceToNat, Int.reduceLT, Int.reduceLE, TES, XRE, XR, XRH, XRN, flt, atR, tellR, textR, ↓xguard_on, ↓xguard_no, ↓xguard_g0, Bool.not_true, Bool.not_false, XCut]
  obtain ⟨hs, ho⟩ := hp
  have hsz := ho.size hs
  have hcd := ho.cd
  obtain ⟨R, hR⟩ : ∃ R, R = paR s sb r := ⟨_, rfl⟩
  rw [← hR]
  refine XCalls.rebQ (sprops s r pr true ⟨hs, hcd, ho.pos, ho.hd, ho.pf⟩) [0, 1, 2, 3] (by simp [mapHL, SV.mapH, muL]) (by simp only [ctxMap, at_cons_zero, at_cons_succ, and_true, List.length_cons, List.length_nil]; exact ⟨by omega, soLe_blk (by simp [mapHL, SV.mapH, muL, flt, atR, tellR, textR]), by omega, soLe_same fun _ => rfl, by omega, soLe_same fun _ => rfl, by omega, soLe_same fun _ => rfl⟩) (by decide) (by simp [newRw, SO.ro]) (by decide) (by simp [cleanC, upds, cleanO, noHL, noH, SO.ro, litEl]) ?_
  rintro z c ⟨pr1, an, tg, ha, hq, rfl, rfl⟩
  simp only [↓XC, XV, XT, forall_const, implies_true, reduceIte, Nat.reduceAdd, Nat.reduceLT, Nat.reduceEqDiff, Nat.reduceBEq, Nat.reduceLeDiff, reduceCtorEq, Nat.reduceSub, Nat.reduceMul, Int.reduceToNat, Int.reduceLT, Int.reduceLE, TES, XRE, XR, XRH, XRN, flt, atR, tellR, textR, ↓xguard_on, ↓xguard_no, ↓xguard_g0, Bool.not_true, Bool.not_false, XCut, XM]
  obtain ⟨F, hF⟩ : ∃ F, F = prZ s true r := ⟨_, rfl⟩
  have hF' : F = prF s r := hF
  rw [← hF] at hq ⊢
  refine ⟨fun h => ?_, fun h => ?_⟩
  · have hFz : ¬ F.cd = 0 := by simpa using h
    have eR : R = F := by rw [hR]; unfold paR; rw [← hF', if_pos hFz]
    rw [eR]
    refine ⟨.tup [], [some (.blk false [.s s, .i .i64 (((F).pos : Nat) : Int), .slc 1 0 (F).ev.length, .i .i64 (F).cd, .i .i64 ((F).pl : Nat), .i .i64 ((F).dp : Nat), .slc 2 0 (nmS (F).ev (F).dn (F).bs).length, .slc 3 0 (F).hd.length, .i .i64 pr1]), some (.row false 8 (F).ev.length (rowE evc evz (F).ev)), some (.row false 2 (nmS (F).ev (F).dn (F).bs).length (rowE nac ([], false) (nmS (F).ev (F).dn (F).bs))), some (.row false 2 (F).hd.length (rowE hdc hdz (F).hd))], ⟨(((F).pos : Nat) : Int), pr1, fun _ => rfl, rfl, rfl⟩, ?_⟩
    exact ⟨[0, 1, 2, 3], by decide, by simp only [entCtx, at_cons_zero, at_cons_succ, and_true, true_and]; exact ⟨soLe_blk (by simp [mapHL, SV.mapH, muL, flt, atR, tellR, textR]), soLe_same fun _ => rfl, soLe_same fun _ => rfl, soLe_same fun _ => rfl⟩, by simp only [↓XC, XV, XT, forall_const, implies_true, reduceIte, Nat.reduceAdd, Nat.reduceLT, Nat.reduceEqDiff, Nat.reduceBEq, Nat.reduceLeDiff, reduceCtorEq, Nat.reduceSub, Nat.reduceMul, Int.reduceToNat, Int.reduceLT, Int.reduceLE]; try first | rfl | simp [muL, SV.mapH, mapHL], by simp [newRw, SO.ro], by simp⟩
  have hFz : F.cd = 0 := by simpa using h
  obtain ⟨_, ean, etg, eha⟩ := hq hFz
  subst ean etg eha
  obtain ⟨p, hpp⟩ : ∃ p, p = prP s true r := ⟨_, rfl⟩
  rw [← hpp]
  have hFo : Ok s F := by rw [hF']; exact ho.prF (by rw [← hF']; exact hFz)
  have hFd : F.dp = r.dp := by
    obtain ⟨q9, e9, _⟩ := prF_ok ho.pos hcd (show (prF s r).cd = 0 by rw [← hF']; exact hFz)
    rw [hF', e9]; rfl
  have hFsz := hFo.size hs
  refine XCalls.mut (sbyte s F pr1 hs) rfl [0, 1, 2, 3] (by simp [mapHL, SV.mapH, muL]) (by simp only [ctxMap, at_cons_zero, at_cons_succ, and_true, List.length_cons, List.length_nil]; exact ⟨by omega, soLe_blk (by simp [mapHL, SV.mapH, muL, flt, atR, tellR, textR]), by omega, soLe_same fun _ => rfl, by omega, soLe_same fun _ => rfl, by omega, soLe_same fun _ => rfl⟩) (by decide) ?_
  simp only [↓XC, XV, XT, forall_const, implies_true, reduceIte, Nat.reduceAdd, Nat.reduceLT, Nat.reduceEqDiff, Nat.reduceBEq, Nat.reduceLeDiff, reduceCtorEq, Nat.reduceSub, Nat.reduceMul, Int.reduceToNat, Int.reduceLT, Int.reduceLE, TES, XRE, XR, XRH, XRN, flt, atR, tellR, textR, ↓xguard_on, ↓xguard_no, ↓xguard_g0, Bool.not_true, Bool.not_false, XCut, XM]
  have hqu : (decide ((if byt s F.pos < 0 then (0 : Int) else byt s F.pos) = 39) || decide ((if byt s F.pos < 0 then (0 : Int) else byt s F.pos) = 34)) = isQu (byt s F.pos) := by
    have e1 := by0 (s := s) (p := F.pos) (show (0 : Int) < 39 by decide)
    have e2 := by0 (s := s) (p := F.pos) (show (0 : Int) < 34 by decide)
    simp only [e1, e2, isQu]
    rfl
  refine VCuts.of (ι := {x : Rd // x = scR s F p 125 58}) (fun x => ⟨[(0, .ptr 0 0 0), (5, .b (isQu (byt s F.pos)))], [some (.blk false [.s s, .i .i64 ((x.1).pos : Nat), .slc 1 0 (x.1).ev.length, .i .i64 (x.1).cd, .i .i64 ((x.1).pl : Nat), .i .i64 ((x.1).dp : Nat), .slc 2 0 (nmS (x.1).ev (x.1).dn (x.1).bs).length, .slc 3 0 (x.1).hd.length, .i .i64 pr1]), some (.row false 8 (x.1).ev.length (rowE evc evz (x.1).ev)), some (.row false 2 (nmS (x.1).ev (x.1).dn (x.1).bs).length (rowE nac ([], false) (nmS (x.1).ev (x.1).dn (x.1).bs))), some (.row false 2 (x.1).hd.length (rowE hdc hdz (x.1).hd))]⟩) ?_ ?_
  · simp only [↓XC, XV, XT, forall_const, implies_true, reduceIte, Nat.reduceAdd, Nat.reduceLT, Nat.reduceEqDiff, Nat.reduceBEq, Nat.reduceLeDiff, reduceCtorEq, Nat.reduceSub, Nat.reduceMul, Int.reduceToNat, Int.reduceLT, Int.reduceLE, TES, XRE, XR, XRH, XRN, flt, atR, tellR, textR, ↓xguard_on, ↓xguard_no, ↓xguard_g0, Bool.not_true, Bool.not_false, XCut]
    rw [hqu]
    refine XCalls.reb (sscalar s F pr1 0 0 [] p.an p.tg p.has (-1) true ⟨hs, by omega, hFo.dn, hFo.bs, hFz, hFo.pos⟩) [0, 1, 2, 3] (by simp [mapHL, SV.mapH, muL]) (by simp only [ctxMap, at_cons_zero, at_cons_succ, and_true, List.length_cons, List.length_nil]; exact ⟨by omega, soLe_blk (by simp [mapHL, SV.mapH, muL, flt, atR, tellR, textR]), by omega, soLe_same fun _ => rfl, by omega, soLe_same fun _ => rfl, by omega, soLe_same fun _ => rfl⟩) (by decide) (by simp [newRw, SO.ro]) (by decide) (by simp [cleanC, upds, cleanO, noHL, noH, SO.ro, litEl]) ?_
    simp only [↓XC, XV, XT, forall_const, implies_true, reduceIte, Nat.reduceAdd, Nat.reduceLT, Nat.reduceEqDiff, Nat.reduceBEq, Nat.reduceLeDiff, reduceCtorEq, Nat.reduceSub, Nat.reduceMul, Int.reduceToNat, Int.reduceLT, Int.reduceLE, TES, XRE, XR, XRH, XRN, flt, atR, tellR, textR, ↓xguard_on, ↓xguard_no, ↓xguard_g0, Bool.not_true, Bool.not_false, XCut, XM]
    refine ⟨fun hb => ?_, fun hb => ?_⟩
    · have hb' : sqB s F true = false := by simpa using hb
      obtain ⟨ex, es⟩ := scR_n (p := p) (c1 := 125) (c2 := 58) hb'
      rw [show scX s F (⟨p.has, p.an, p.tg, 0⟩ : Pp) (-1) true = F from ex]
      simp only [by0 (show (0 : Int) < 44 by decide)]
      simp only [by0 (show (0 : Int) < 125 by decide)]
      simp only [by0 (show (0 : Int) < 58 by decide)]
      refine ⟨fun hc => ?_, fun hc => ?_⟩
      · have hc' : ¬ (p.has = true ∧ (byt s F.pos = 44 ∨ byt s F.pos = 125 ∨ byt s F.pos = 58)) := by
          rintro ⟨k1, k2⟩
          rcases k2 with k2 | k2 | k2 <;> simp [k1, k2] at hc
        rw [if_neg hc'] at es
        have e : R = flt F 10 F.pos := by rw [hR]; unfold paR; rw [← hF', ← hpp, if_neg (by simpa using hFz), es, if_pos (by simp [flt])]
        refine XCalls.mut (sfail s F pr1 10 F.pos hFz) rfl [0, 1, 2, 3] (by simp [mapHL, SV.mapH, muL]) (by simp only [ctxMap, at_cons_zero, at_cons_succ, and_true, List.length_cons, List.length_nil]; exact ⟨by omega, soLe_blk (by simp [mapHL, SV.mapH, muL, flt, atR, tellR, textR]), by omega, soLe_same fun _ => rfl, by omega, soLe_same fun _ => rfl, by omega, soLe_same fun _ => rfl⟩) (by decide) ?_
        simp only [↓XC, XV, XT, forall_const, implies_true, reduceIte, Nat.reduceAdd, Nat.reduceLT, Nat.reduceEqDiff, Nat.reduceBEq, Nat.reduceLeDiff, reduceCtorEq, Nat.reduceSub, Nat.reduceMul, Int.reduceToNat, Int.reduceLT, Int.reduceLE, TES, XRE, XR, XRH, XRN, flt, atR, tellR, textR, ↓xguard_on, ↓xguard_no, ↓xguard_g0, Bool.not_true, Bool.not_false, XCut, XM]
        have eR : R = flt F 10 F.pos := e
        rw [eR]
        refine ⟨.tup [], [some (.blk false [.s s, .i .i64 (((flt F 10 F.pos).pos : Nat) : Int), .slc 1 0 (flt F 10 F.pos).ev.length, .i .i64 (flt F 10 F.pos).cd, .i .i64 ((flt F 10 F.pos).pl : Nat), .i .i64 ((flt F 10 F.pos).dp : Nat), .slc 2 0 (nmS (flt F 10 F.pos).ev (flt F 10 F.pos).dn (flt F 10 F.pos).bs).length, .slc 3 0 (flt F 10 F.pos).hd.length, .i .i64 pr1]), some (.row false 8 (flt F 10 F.pos).ev.length (rowE evc evz (flt F 10 F.pos).ev)), some (.row false 2 (nmS (flt F 10 F.pos).ev (flt F 10 F.pos).dn (flt F 10 F.pos).bs).length (rowE nac ([], false) (nmS (flt F 10 F.pos).ev (flt F 10 F.pos).dn (flt F 10 F.pos).bs))), some (.row false 2 (flt F 10 F.pos).hd.length (rowE hdc hdz (flt F 10 F.pos).hd))], ⟨(((flt F 10 F.pos).pos : Nat) : Int), pr1, fun _ => rfl, rfl, rfl⟩, ?_⟩
        exact ⟨[0, 1, 2, 3], by decide, by simp only [entCtx, at_cons_zero, at_cons_succ, and_true, true_and]; exact ⟨soLe_blk (by simp [mapHL, SV.mapH, muL, flt, atR, tellR, textR]), soLe_same fun _ => rfl, soLe_same fun _ => rfl, soLe_same fun _ => rfl⟩, by simp only [↓XC, XV, XT, forall_const, implies_true, reduceIte, Nat.reduceAdd, Nat.reduceLT, Nat.reduceEqDiff, Nat.reduceBEq, Nat.reduceLeDiff, reduceCtorEq, Nat.reduceSub, Nat.reduceMul, Int.reduceToNat, Int.reduceLT, Int.reduceLE]; try first | rfl | simp [muL, SV.mapH, mapHL], by simp [newRw, SO.ro], by simp⟩
      · have hc' : p.has = true ∧ (byt s F.pos = 44 ∨ byt s F.pos = 125 ∨ byt s F.pos = 58) := by
          refine Classical.byContradiction fun hn => ?_
          cases hh : p.has
          · rw [hh] at hc; simp at hc
          · simp only [hh, true_and, not_or] at hn
            simp [hh, hn.1, hn.2.1, hn.2.2] at hc
        rw [if_pos hc'] at es
        refine XCalls.reb (stext s F pr1 0 0 [] p.an p.tg 1 [] ⟨by omega, hFo.dn, hFo.bs⟩) [0, 1, 2, 3] (by simp [mapHL, SV.mapH, muL]) (by simp only [ctxMap, at_cons_zero, at_cons_succ, and_true, List.length_cons, List.length_nil]; exact ⟨by omega, soLe_blk (by simp [mapHL, SV.mapH, muL, flt, atR, tellR, textR]), by omega, soLe_same fun _ => rfl, by omega, soLe_same fun _ => rfl, by omega, soLe_same fun _ => rfl⟩) (by decide) (by simp [newRw, SO.ro]) (by decide) (by simp [cleanC, upds, cleanO, noHL, noH, SO.ro, litEl]) ?_
        simp only [↓XC, XV, XT, forall_const, implies_true, reduceIte, Nat.reduceAdd, Nat.reduceLT, Nat.reduceEqDiff, Nat.reduceBEq, Nat.reduceLeDiff, reduceCtorEq, Nat.reduceSub, Nat.reduceMul, Int.reduceToNat, Int.reduceLT, Int.reduceLE, TES, XRE, XR, XRH, XRN, flt, atR, tellR, textR, ↓xguard_on, ↓xguard_no, ↓xguard_g0, Bool.not_true, Bool.not_false, XCut, XM]
        refine ⟨⟨textR F 1 [] p.an p.tg, es.symm⟩, ?_⟩
        simp only [textR, tellR, List.length_append, List.length_cons, List.length_nil, Nat.zero_add]
        exact (Ent.ren1 [0, 1, 2, 3] (by decide) (by simp only [entCtx, at_cons_zero, at_cons_succ, and_true, true_and]; exact ⟨soLe_blk (by simp [mapHL, SV.mapH, muL, flt, atR, tellR, textR]), soLe_same fun _ => rfl, soLe_same fun _ => rfl, soLe_same fun _ => rfl⟩) (by simp [entEnv, Vg.look, SV.mapH, muL]))
    · have hb' : sqB s F true = true := by simpa using hb
      exact ⟨⟨scX s F (⟨p.has, p.an, p.tg, 0⟩ : Pp) (-1) true, (scR_x hb').symm⟩, (Ent.ren1 [0, 1, 2, 3] (by decide) (by simp only [entCtx, at_cons_zero, at_cons_succ, and_true, true_and]; exact ⟨soLe_blk (by simp [mapHL, SV.mapH, muL, flt, atR, tellR, textR]), soLe_same fun _ => rfl, soLe_same fun _ => rfl, soLe_same fun _ => rfl⟩) (by simp [entEnv, Vg.look, SV.mapH, muL]))⟩
  rintro ⟨x, hx⟩
  have e0 : R = if x.cd ≠ 0 then x else if (gapR s x).cd ≠ 0 then gapR s x else paK s sb (isQu (byt s F.pos)) (gapR s x) := by
    rw [hR]
    unfold paR
    rw [← hF', ← hpp, ← hx, if_neg (by simpa using hFz)]
  simp only [↓XC, XV, XT, forall_const, implies_true, reduceIte, Nat.reduceAdd, Nat.reduceLT, Nat.reduceEqDiff, Nat.reduceBEq, Nat.reduceLeDiff, reduceCtorEq, Nat.reduceSub, Nat.reduceMul, Int.reduceToNat, Int.reduceLT, Int.reduceLE, TES, XRE, XR, XRH, XRN, flt, atR, tellR, textR, ↓xguard_on, ↓xguard_no, ↓xguard_g0, Bool.not_true, Bool.not_false, XCut]
  by_cases hxz : x.cd = 0
  · have hst := pa_key ho hF' hFz (by rw [hx, hpp]) hxz
    have hxo := hst.ok
    simp only [decide_eq_true hxz]
    simp only [↓XC, XV, XT, forall_const, implies_true, reduceIte, Nat.reduceAdd, Nat.reduceLT, Nat.reduceEqDiff, Nat.reduceBEq, Nat.reduceLeDiff, reduceCtorEq, Nat.reduceSub, Nat.reduceMul, Int.reduceToNat, Int.reduceLT, Int.reduceLE, TES, XRE, XR, XRH, XRN, flt, atR, tellR, textR, ↓xguard_on, ↓xguard_no, ↓xguard_g0, Bool.not_true, Bool.not_false, XCut, ↓xguard_on, ↓xguard_no, ↓xguard_g0, Bool.not_true, Bool.not_false]
    obtain ⟨g, hg⟩ : ∃ g, g = gapR s x := ⟨_, rfl⟩
    refine XCalls.mut (sgap s x pr1 ⟨hs, hxz, hxo.pos⟩) rfl [0, 1, 2, 3] (by simp [mapHL, SV.mapH, muL]) (by simp only [ctxMap, at_cons_zero, at_cons_succ, and_true, List.length_cons, List.length_nil]; exact ⟨by omega, soLe_blk (by simp [mapHL, SV.mapH, muL, flt, atR, tellR, textR]), by omega, soLe_same fun _ => rfl, by omega, soLe_same fun _ => rfl, by omega, soLe_same fun _ => rfl⟩) (by decide) ?_
    simp only [↓XC, XV, XT, forall_const, implies_true, reduceIte, Nat.reduceAdd, Nat.reduceLT, Nat.reduceEqDiff, Nat.reduceBEq, Nat.reduceLeDiff, reduceCtorEq, Nat.reduceSub, Nat.reduceMul, Int.reduceToNat, Int.reduceLT, Int.reduceLE, TES, XRE, XR, XRH, XRN, flt, atR, tellR, textR, ↓xguard_on, ↓xguard_no, ↓xguard_g0, Bool.not_true, Bool.not_false, XCut, XM]
    rw [← hg]
    rw [if_neg (by simpa using hxz), ← hg] at e0
    refine ⟨fun h => ?_, fun h => ?_⟩
    · have hgz : ¬ g.cd = 0 := by simpa using h
      have eR : R = g := by rw [e0, if_pos hgz]
      rw [eR]
      refine ⟨.tup [], [some (.blk false [.s s, .i .i64 (((g).pos : Nat) : Int), .slc 1 0 (g).ev.length, .i .i64 (g).cd, .i .i64 ((g).pl : Nat), .i .i64 ((g).dp : Nat), .slc 2 0 (nmS (g).ev (g).dn (g).bs).length, .slc 3 0 (g).hd.length, .i .i64 pr1]), some (.row false 8 (g).ev.length (rowE evc evz (g).ev)), some (.row false 2 (nmS (g).ev (g).dn (g).bs).length (rowE nac ([], false) (nmS (g).ev (g).dn (g).bs))), some (.row false 2 (g).hd.length (rowE hdc hdz (g).hd))], ⟨(((g).pos : Nat) : Int), pr1, fun _ => rfl, rfl, rfl⟩, ?_⟩
      exact ⟨[0, 1, 2, 3], by decide, by simp only [entCtx, at_cons_zero, at_cons_succ, and_true, true_and]; exact ⟨soLe_blk (by simp [mapHL, SV.mapH, muL, flt, atR, tellR, textR]), soLe_same fun _ => rfl, soLe_same fun _ => rfl, soLe_same fun _ => rfl⟩, by simp only [↓XC, XV, XT, forall_const, implies_true, reduceIte, Nat.reduceAdd, Nat.reduceLT, Nat.reduceEqDiff, Nat.reduceBEq, Nat.reduceLeDiff, reduceCtorEq, Nat.reduceSub, Nat.reduceMul, Int.reduceToNat, Int.reduceLT, Int.reduceLE]; try first | rfl | simp [muL, SV.mapH, mapHL], by simp [newRw, SO.ro], by simp⟩
    have hgz : g.cd = 0 := by simpa using h
    have hgo : Ok s g := by rw [hg]; exact hxo.gap (by rw [← hg]; exact hgz)
    have hgd : g.dp = r.dp := by
      obtain ⟨e9, h9⟩ := gapR_ok (s := s) (r := x) (by rw [← hg]; exact hgz)
      rw [hg, e9]; exact hst.dp
    have hgp : g.pos < s.length := by
      obtain ⟨e9, h9⟩ := gapR_ok (s := s) (r := x) (by rw [← hg]; exact hgz)
      rw [hg, e9]; exact h9
    have hgsz := hgo.size hs
    rw [if_neg (by simpa using hgz)] at e0
    refine XCalls.mut (scolon s g pr1 (isQu (byt s F.pos)) ⟨hs, hgo.pos⟩) rfl [0, 1, 2, 3] (by simp [mapHL, SV.mapH, muL]) (by simp only [ctxMap, at_cons_zero, at_cons_succ, and_true, List.length_cons, List.length_nil]; exact ⟨by omega, soLe_blk (by simp [mapHL, SV.mapH, muL, flt, atR, tellR, textR]), by omega, soLe_same fun _ => rfl, by omega, soLe_same fun _ => rfl, by omega, soLe_same fun _ => rfl⟩) (by decide) ?_
    simp only [↓XC, XV, XT, forall_const, implies_true, reduceIte, Nat.reduceAdd, Nat.reduceLT, Nat.reduceEqDiff, Nat.reduceBEq, Nat.reduceLeDiff, reduceCtorEq, Nat.reduceSub, Nat.reduceMul, Int.reduceToNat, Int.reduceLT, Int.reduceLE, TES, XRE, XR, XRH, XRN, flt, atR, tellR, textR, ↓xguard_on, ↓xguard_no, ↓xguard_g0, Bool.not_true, Bool.not_false, XCut, XM]
    have hQ : (decide (byt s g.pos = 58) && (isQu (byt s F.pos) || gap s (g.pos + 1) || flw (byt s (g.pos + 1)))) = decide (byt s g.pos = 58 ∧ (gap s (g.pos + 1) || flw (byt s (g.pos + 1)) || isQu (byt s F.pos)) = true) := by
      rw [Bool.decide_and, Bool.decide_eq_true]
      cases isQu (byt s F.pos) <;> cases gap s (g.pos + 1) <;> simp
    rw [hQ]
    refine ⟨fun hc => Chk.mk (by simp only [inR]; omega) fun _ => ?_, fun hc => ?_⟩
    · obtain ⟨h', hh⟩ : ∃ h', h' = gapR s (atR g (g.pos + 1)) := ⟨_, rfl⟩
      have hc' := of_decide_eq_true hc
      rw [paK, if_pos hc', paV, ← hh] at e0
      refine XCalls.mut (sgap s (atR g (g.pos + 1)) pr1 ⟨hs, hgz, hgp⟩) rfl [0, 1, 2, 3] (by simp [mapHL, SV.mapH, muL]) (by simp only [ctxMap, at_cons_zero, at_cons_succ, and_true, List.length_cons, List.length_nil]; exact ⟨by omega, soLe_blk (by simp [mapHL, SV.mapH, muL, flt, atR, tellR, textR]), by omega, soLe_same fun _ => rfl, by omega, soLe_same fun _ => rfl, by omega, soLe_same fun _ => rfl⟩) (by decide) ?_
      simp only [↓XC, XV, XT, forall_const, implies_true, reduceIte, Nat.reduceAdd, Nat.reduceLT, Nat.reduceEqDiff, Nat.reduceBEq, Nat.reduceLeDiff, reduceCtorEq, Nat.reduceSub, Nat.reduceMul, Int.reduceToNat, Int.reduceLT, Int.reduceLE, TES, XRE, XR, XRH, XRN, flt, tellR, textR, ↓xguard_on, ↓xguard_no, ↓xguard_g0, Bool.not_true, Bool.not_false, XCut, XM]
      rw [← hh]
      refine ⟨fun hz => ?_, fun hz => ?_⟩
      · have hz' : ¬ h'.cd = 0 := by simpa using hz
        have eR : R = h' := by rw [e0, if_pos hz']
        rw [eR]
        refine ⟨.tup [], [some (.blk false [.s s, .i .i64 (((h').pos : Nat) : Int), .slc 1 0 (h').ev.length, .i .i64 (h').cd, .i .i64 ((h').pl : Nat), .i .i64 ((h').dp : Nat), .slc 2 0 (nmS (h').ev (h').dn (h').bs).length, .slc 3 0 (h').hd.length, .i .i64 pr1]), some (.row false 8 (h').ev.length (rowE evc evz (h').ev)), some (.row false 2 (nmS (h').ev (h').dn (h').bs).length (rowE nac ([], false) (nmS (h').ev (h').dn (h').bs))), some (.row false 2 (h').hd.length (rowE hdc hdz (h').hd))], ⟨(((h').pos : Nat) : Int), pr1, fun _ => rfl, rfl, rfl⟩, ?_⟩
        exact ⟨[0, 1, 2, 3], by decide, by simp only [entCtx, at_cons_zero, at_cons_succ, and_true, true_and]; exact ⟨soLe_blk (by simp [mapHL, SV.mapH, muL, flt, atR, tellR, textR]), soLe_same fun _ => rfl, soLe_same fun _ => rfl, soLe_same fun _ => rfl⟩, by simp only [↓XC, XV, XT, forall_const, implies_true, reduceIte, Nat.reduceAdd, Nat.reduceLT, Nat.reduceEqDiff, Nat.reduceBEq, Nat.reduceLeDiff, reduceCtorEq, Nat.reduceSub, Nat.reduceMul, Int.reduceToNat, Int.reduceLT, Int.reduceLE]; try first | rfl | simp [muL, SV.mapH, mapHL], by simp [newRw, SO.ro], by simp⟩
      have hz' : h'.cd = 0 := by simpa using hz
      obtain ⟨e9, h9⟩ := gapR_ok (s := s) (r := atR g (g.pos + 1)) (by rw [← hh]; exact hz')
      rw [← hh] at e9
      have hho : Ok s h' := by rw [hh]; exact (hgo.at (q := g.pos + 1) (by omega) hgp).gap (by rw [← hh]; exact hz')
      have hhd : h'.dp = r.dp := by rw [e9]; exact hgd
      have hhp : h'.pos < s.length := by rw [e9]; exact h9
      have hhsz := hho.size hs
      rw [if_neg (by simpa using hz')] at e0
      refine XCalls.mut (sbyte s h' pr1 hs) rfl [0, 1, 2, 3] (by simp [mapHL, SV.mapH, muL]) (by simp only [ctxMap, at_cons_zero, at_cons_succ, and_true, List.length_cons, List.length_nil]; exact ⟨by omega, soLe_blk (by simp [mapHL, SV.mapH, muL, flt, atR, tellR, textR]), by omega, soLe_same fun _ => rfl, by omega, soLe_same fun _ => rfl, by omega, soLe_same fun _ => rfl⟩) (by decide) ?_
      simp only [↓XC, XV, XT, forall_const, implies_true, reduceIte, Nat.reduceAdd, Nat.reduceLT, Nat.reduceEqDiff, Nat.reduceBEq, Nat.reduceLeDiff, reduceCtorEq, Nat.reduceSub, Nat.reduceMul, Int.reduceToNat, Int.reduceLT, Int.reduceLE, TES, XRE, XR, XRH, XRN, flt, atR, tellR, textR, ↓xguard_on, ↓xguard_no, ↓xguard_g0, Bool.not_true, Bool.not_false, XCut, XM]
      simp only [by0 (show (0 : Int) < 44 by decide)]
      by_cases h44 : byt s h'.pos = 44
      · simp only [decide_eq_true h44]
        simp only [↓XC, XV, XT, forall_const, implies_true, reduceIte, Nat.reduceAdd, Nat.reduceLT, Nat.reduceEqDiff, Nat.reduceBEq, Nat.reduceLeDiff, reduceCtorEq, Nat.reduceSub, Nat.reduceMul, Int.reduceToNat, Int.reduceLT, Int.reduceLE, TES, XRE, XR, XRH, XRN, flt, atR, tellR, textR, ↓xguard_on, ↓xguard_no, ↓xguard_g0, Bool.not_true, Bool.not_false, XCut, ↓xguard_on, ↓xguard_no, ↓xguard_g0, Bool.not_true, Bool.not_false]
        rw [if_pos (.inl h44)] at e0
        refine XCalls.reb (stext s h' pr1 0 0 [] [] [] 1 [] ⟨by omega, hho.dn, hho.bs⟩) [0, 1, 2, 3] (by simp [mapHL, SV.mapH, muL]) (by simp only [ctxMap, at_cons_zero, at_cons_succ, and_true, List.length_cons, List.length_nil]; exact ⟨by omega, soLe_blk (by simp [mapHL, SV.mapH, muL, flt, atR, tellR, textR]), by omega, soLe_same fun _ => rfl, by omega, soLe_same fun _ => rfl, by omega, soLe_same fun _ => rfl⟩) (by decide) (by simp [newRw, SO.ro]) (by decide) (by simp [cleanC, upds, cleanO, noHL, noH, SO.ro, litEl]) ?_
        simp only [↓XC, XV, XT, forall_const, implies_true, reduceIte, Nat.reduceAdd, Nat.reduceLT, Nat.reduceEqDiff, Nat.reduceBEq, Nat.reduceLeDiff, reduceCtorEq, Nat.reduceSub, Nat.reduceMul, Int.reduceToNat, Int.reduceLT, Int.reduceLE, TES, XRE, XR, XRH, XRN, flt, atR, tellR, textR, ↓xguard_on, ↓xguard_no, ↓xguard_g0, Bool.not_true, Bool.not_false, XCut, XM]
        have eR : R = textR h' 1 [] [] [] := e0
        rw [eR]
        refine ⟨.tup [], [some (.blk false [.s s, .i .i64 (((textR h' 1 [] [] []).pos : Nat) : Int), .slc 1 0 (textR h' 1 [] [] []).ev.length, .i .i64 (textR h' 1 [] [] []).cd, .i .i64 ((textR h' 1 [] [] []).pl : Nat), .i .i64 ((textR h' 1 [] [] []).dp : Nat), .slc 2 0 (nmS (textR h' 1 [] [] []).ev (textR h' 1 [] [] []).dn (textR h' 1 [] [] []).bs).length, .slc 3 0 (textR h' 1 [] [] []).hd.length, .i .i64 pr1]), some (.row false 8 (textR h' 1 [] [] []).ev.length (rowE evc evz (textR h' 1 [] [] []).ev)), some (.row false 2 (nmS (textR h' 1 [] [] []).ev (textR h' 1 [] [] []).dn (textR h' 1 [] [] []).bs).length (rowE nac ([], false) (nmS (textR h' 1 [] [] []).ev (textR h' 1 [] [] []).dn (textR h' 1 [] [] []).bs))), some (.row false 2 (textR h' 1 [] [] []).hd.length (rowE hdc hdz (textR h' 1 [] [] []).hd))], ⟨(((textR h' 1 [] [] []).pos : Nat) : Int), pr1, fun _ => rfl, rfl, rfl⟩, ?_⟩
        try simp only [textR, tellR, List.length_append, List.length_cons, List.length_nil, Nat.zero_add]
        exact ⟨[0, 1, 2, 3], by decide, by simp only [entCtx, at_cons_zero, at_cons_succ, and_true, true_and]; exact ⟨soLe_blk (by simp [mapHL, SV.mapH, muL, flt, atR, tellR, textR]), soLe_same fun _ => rfl, soLe_same fun _ => rfl, soLe_same fun _ => rfl⟩, by simp only [↓XC, XV, XT, forall_const, implies_true, reduceIte, Nat.reduceAdd, Nat.reduceLT, Nat.reduceEqDiff, Nat.reduceBEq, Nat.reduceLeDiff, reduceCtorEq, Nat.reduceSub, Nat.reduceMul, Int.reduceToNat, Int.reduceLT, Int.reduceLE]; try first | rfl | simp [muL, SV.mapH, mapHL], by simp [newRw, SO.ro], by simp⟩
      · simp only [decide_eq_false h44]
        simp only [↓XC, XV, XT, forall_const, implies_true, reduceIte, Nat.reduceAdd, Nat.reduceLT, Nat.reduceEqDiff, Nat.reduceBEq, Nat.reduceLeDiff, reduceCtorEq, Nat.reduceSub, Nat.reduceMul, Int.reduceToNat, Int.reduceLT, Int.reduceLE, TES, XRE, XR, XRH, XRN, flt, atR, tellR, textR, ↓xguard_on, ↓xguard_no, ↓xguard_g0, Bool.not_true, Bool.not_false, XCut, ↓xguard_on, ↓xguard_no, ↓xguard_g0, Bool.not_true, Bool.not_false]
        refine XCalls.mut (sbyte s h' pr1 hs) rfl [0, 1, 2, 3] (by simp [mapHL, SV.mapH, muL]) (by simp only [ctxMap, at_cons_zero, at_cons_succ, and_true, List.length_cons, List.length_nil]; exact ⟨by omega, soLe_blk (by simp [mapHL, SV.mapH, muL, flt, atR, tellR, textR]), by omega, soLe_same fun _ => rfl, by omega, soLe_same fun _ => rfl, by omega, soLe_same fun _ => rfl⟩) (by decide) ?_
        simp only [↓XC, XV, XT, forall_const, implies_true, reduceIte, Nat.reduceAdd, Nat.reduceLT, Nat.reduceEqDiff, Nat.reduceBEq, Nat.reduceLeDiff, reduceCtorEq, Nat.reduceSub, Nat.reduceMul, Int.reduceToNat, Int.reduceLT, Int.reduceLE, TES, XRE, XR, XRH, XRN, flt, atR, tellR, textR, ↓xguard_on, ↓xguard_no, ↓xguard_g0, Bool.not_true, Bool.not_false, XCut, XM]
        simp only [by0 (show (0 : Int) < 125 by decide)]
        refine ⟨fun hn => ?_, fun hn => ?_⟩
        · have h125 : ¬ byt s h'.pos = 125 := by simpa using hn
          rw [if_neg (by rintro (k | k); exact h44 k; exact h125 k)] at e0
          have hN := HS h' pr1 hho hhd
          unfold NodeS spC at hN
          refine XCalls.rebQ (hN) [0, 1, 2, 3] (by simp [mapHL, SV.mapH, muL]) (by simp only [ctxMap, at_cons_zero, at_cons_succ, and_true, List.length_cons, List.length_nil]; exact ⟨by omega, soLe_blk (by simp [mapHL, SV.mapH, muL, flt, atR, tellR, textR]), by omega, soLe_same fun _ => rfl, by omega, soLe_same fun _ => rfl, by omega, soLe_same fun _ => rfl⟩) (by decide) (by simp [newRw, SO.ro]) (by decide) (by simp [cleanC, upds, cleanO, noHL, noH, SO.ro, litEl]) ?_
          rintro z c ⟨a2, pr2, ha2, rfl, rfl⟩
          simp only [↓XC, XV, XT, forall_const, implies_true, reduceIte, Nat.reduceAdd, Nat.reduceLT, Nat.reduceEqDiff, Nat.reduceBEq, Nat.reduceLeDiff, reduceCtorEq, Nat.reduceSub, Nat.reduceMul, Int.reduceToNat, Int.reduceLT, Int.reduceLE, TES, XRE, XR, XRH, XRN, flt, atR, tellR, textR, ↓xguard_on, ↓xguard_no, ↓xguard_g0, Bool.not_true, Bool.not_false, XCut, XM]
          have eR : R = sb h' := e0
          rw [eR]
          refine ⟨.tup [], [some (.blk false [.s s, .i .i64 a2, .slc 1 0 (sb h').ev.length, .i .i64 (sb h').cd, .i .i64 ((sb h').pl : Nat), .i .i64 ((sb h').dp : Nat), .slc 2 0 (nmS (sb h').ev (sb h').dn (sb h').bs).length, .slc 3 0 (sb h').hd.length, .i .i64 pr2]), some (.row false 8 (sb h').ev.length (rowE evc evz (sb h').ev)), some (.row false 2 (nmS (sb h').ev (sb h').dn (sb h').bs).length (rowE nac ([], false) (nmS (sb h').ev (sb h').dn (sb h').bs))), some (.row false 2 (sb h').hd.length (rowE hdc hdz (sb h').hd))], ⟨a2, pr2, ha2, rfl, rfl⟩, ?_⟩
          exact ⟨[0, 1, 2, 3], by decide, by simp only [entCtx, at_cons_zero, at_cons_succ, and_true, true_and]; exact ⟨soLe_blk (by simp [mapHL, SV.mapH, muL, flt, atR, tellR, textR]), soLe_same fun _ => rfl, soLe_same fun _ => rfl, soLe_same fun _ => rfl⟩, by simp only [↓XC, XV, XT, forall_const, implies_true, reduceIte, Nat.reduceAdd, Nat.reduceLT, Nat.reduceEqDiff, Nat.reduceBEq, Nat.reduceLeDiff, reduceCtorEq, Nat.reduceSub, Nat.reduceMul, Int.reduceToNat, Int.reduceLT, Int.reduceLE]; try first | rfl | simp [muL, SV.mapH, mapHL], by simp [newRw, SO.ro], by simp⟩
        · have h125 : byt s h'.pos = 125 := by simpa using hn
          rw [if_pos (.inr h125)] at e0
          refine XCalls.reb (stext s h' pr1 0 0 [] [] [] 1 [] ⟨by omega, hho.dn, hho.bs⟩) [0, 1, 2, 3] (by simp [mapHL, SV.mapH, muL]) (by simp only [ctxMap, at_cons_zero, at_cons_succ, and_true, List.length_cons, List.length_nil]; exact ⟨by omega, soLe_blk (by simp [mapHL, SV.mapH, muL, flt, atR, tellR, textR]), by omega, soLe_same fun _ => rfl, by omega, soLe_same fun _ => rfl, by omega, soLe_same fun _ => rfl⟩) (by decide) (by simp [newRw, SO.ro]) (by decide) (by simp [cleanC, upds, cleanO, noHL, noH, SO.ro, litEl]) ?_
          simp only [↓XC, XV, XT, forall_const, implies_true, reduceIte, Nat.reduceAdd, Nat.reduceLT, Nat.reduceEqDiff, Nat.reduceBEq, Nat.reduceLeDiff, reduceCtorEq, Nat.reduceSub, Nat.reduceMul, Int.reduceToNat, Int.reduceLT, Int.reduceLE, TES, XRE, XR, XRH, XRN, flt, atR, tellR, textR, ↓xguard_on, ↓xguard_no, ↓xguard_g0, Bool.not_true, Bool.not_false, XCut, XM]
          have eR : R = textR h' 1 [] [] [] := e0
          rw [eR]
          refine ⟨.tup [], [some (.blk false [.s s, .i .i64 (((textR h' 1 [] [] []).pos : Nat) : Int), .slc 1 0 (textR h' 1 [] [] []).ev.length, .i .i64 (textR h' 1 [] [] []).cd, .i .i64 ((textR h' 1 [] [] []).pl : Nat), .i .i64 ((textR h' 1 [] [] []).dp : Nat), .slc 2 0 (nmS (textR h' 1 [] [] []).ev (textR h' 1 [] [] []).dn (textR h' 1 [] [] []).bs).length, .slc 3 0 (textR h' 1 [] [] []).hd.length, .i .i64 pr1]), some (.row false 8 (textR h' 1 [] [] []).ev.length (rowE evc evz (textR h' 1 [] [] []).ev)), some (.row false 2 (nmS (textR h' 1 [] [] []).ev (textR h' 1 [] [] []).dn (textR h' 1 [] [] []).bs).length (rowE nac ([], false) (nmS (textR h' 1 [] [] []).ev (textR h' 1 [] [] []).dn (textR h' 1 [] [] []).bs))), some (.row false 2 (textR h' 1 [] [] []).hd.length (rowE hdc hdz (textR h' 1 [] [] []).hd))], ⟨(((textR h' 1 [] [] []).pos : Nat) : Int), pr1, fun _ => rfl, rfl, rfl⟩, ?_⟩
          try simp only [textR, tellR, List.length_append, List.length_cons, List.length_nil, Nat.zero_add]
          exact ⟨[0, 1, 2, 3], by decide, by simp only [entCtx, at_cons_zero, at_cons_succ, and_true, true_and]; exact ⟨soLe_blk (by simp [mapHL, SV.mapH, muL, flt, atR, tellR, textR]), soLe_same fun _ => rfl, soLe_same fun _ => rfl, soLe_same fun _ => rfl⟩, by simp only [↓XC, XV, XT, forall_const, implies_true, reduceIte, Nat.reduceAdd, Nat.reduceLT, Nat.reduceEqDiff, Nat.reduceBEq, Nat.reduceLeDiff, reduceCtorEq, Nat.reduceSub, Nat.reduceMul, Int.reduceToNat, Int.reduceLT, Int.reduceLE]; try first | rfl | simp [muL, SV.mapH, mapHL], by simp [newRw, SO.ro], by simp⟩
    · have hc' := of_decide_eq_false hc
      rw [paK, if_neg hc'] at e0
      refine XCalls.reb (stext s g pr1 0 0 [] [] [] 1 [] ⟨by omega, hgo.dn, hgo.bs⟩) [0, 1, 2, 3] (by simp [mapHL, SV.mapH, muL]) (by simp only [ctxMap, at_cons_zero, at_cons_succ, and_true, List.length_cons, List.length_nil]; exact ⟨by omega, soLe_blk (by simp [mapHL, SV.mapH, muL, flt, atR, tellR, textR]), by omega, soLe_same fun _ => rfl, by omega, soLe_same fun _ => rfl, by omega, soLe_same fun _ => rfl⟩) (by decide) (by simp [newRw, SO.ro]) (by decide) (by simp [cleanC, upds, cleanO, noHL, noH, SO.ro, litEl]) ?_
      simp only [↓XC, XV, XT, forall_const, implies_true, reduceIte, Nat.reduceAdd, Nat.reduceLT, Nat.reduceEqDiff, Nat.reduceBEq, Nat.reduceLeDiff, reduceCtorEq, Nat.reduceSub, Nat.reduceMul, Int.reduceToNat, Int.reduceLT, Int.reduceLE, TES, XRE, XR, XRH, XRN, flt, atR, tellR, textR, ↓xguard_on, ↓xguard_no, ↓xguard_g0, Bool.not_true, Bool.not_false, XCut, XM]
      have eR : R = textR g 1 [] [] [] := e0
      rw [eR]
      refine ⟨.tup [], [some (.blk false [.s s, .i .i64 (((textR g 1 [] [] []).pos : Nat) : Int), .slc 1 0 (textR g 1 [] [] []).ev.length, .i .i64 (textR g 1 [] [] []).cd, .i .i64 ((textR g 1 [] [] []).pl : Nat), .i .i64 ((textR g 1 [] [] []).dp : Nat), .slc 2 0 (nmS (textR g 1 [] [] []).ev (textR g 1 [] [] []).dn (textR g 1 [] [] []).bs).length, .slc 3 0 (textR g 1 [] [] []).hd.length, .i .i64 pr1]), some (.row false 8 (textR g 1 [] [] []).ev.length (rowE evc evz (textR g 1 [] [] []).ev)), some (.row false 2 (nmS (textR g 1 [] [] []).ev (textR g 1 [] [] []).dn (textR g 1 [] [] []).bs).length (rowE nac ([], false) (nmS (textR g 1 [] [] []).ev (textR g 1 [] [] []).dn (textR g 1 [] [] []).bs))), some (.row false 2 (textR g 1 [] [] []).hd.length (rowE hdc hdz (textR g 1 [] [] []).hd))], ⟨(((textR g 1 [] [] []).pos : Nat) : Int), pr1, fun _ => rfl, rfl, rfl⟩, ?_⟩
      try simp only [textR, tellR, List.length_append, List.length_cons, List.length_nil, Nat.zero_add]
      exact ⟨[0, 1, 2, 3], by decide, by simp only [entCtx, at_cons_zero, at_cons_succ, and_true, true_and]; exact ⟨soLe_blk (by simp [mapHL, SV.mapH, muL, flt, atR, tellR, textR]), soLe_same fun _ => rfl, soLe_same fun _ => rfl, soLe_same fun _ => rfl⟩, by simp only [↓XC, XV, XT, forall_const, implies_true, reduceIte, Nat.reduceAdd, Nat.reduceLT, Nat.reduceEqDiff, Nat.reduceBEq, Nat.reduceLeDiff, reduceCtorEq, Nat.reduceSub, Nat.reduceMul, Int.reduceToNat, Int.reduceLT, Int.reduceLE]; try first | rfl | simp [muL, SV.mapH, mapHL], by simp [newRw, SO.ro], by simp⟩
  · simp only [decide_eq_false hxz]
    simp only [↓XC, XV, XT, forall_const, implies_true, reduceIte, Nat.reduceAdd, Nat.reduceLT, Nat.reduceEqDiff, Nat.reduceBEq, Nat.reduceLeDiff, reduceCtorEq, Nat.reduceSub, Nat.reduceMul, Int.reduceToNat, Int.reduceLT, Int.reduceLE, TES, XRE, XR, XRH, XRN, flt, atR, tellR, textR, ↓xguard_on, ↓xguard_no, ↓xguard_g0, Bool.not_true, Bool.not_false, XCut, ↓xguard_on, ↓xguard_no, ↓xguard_g0, Bool.not_true, Bool.not_false]
    have eR : R = x := by rw [e0, if_pos hxz]
    rw [eR]
    refine ⟨.tup [], [some (.blk false [.s s, .i .i64 (((x).pos : Nat) : Int), .slc 1 0 (x).ev.length, .i .i64 (x).cd, .i .i64 ((x).pl : Nat), .i .i64 ((x).dp : Nat), .slc 2 0 (nmS (x).ev (x).dn (x).bs).length, .slc 3 0 (x).hd.length, .i .i64 pr1]), some (.row false 8 (x).ev.length (rowE evc evz (x).ev)), some (.row false 2 (nmS (x).ev (x).dn (x).bs).length (rowE nac ([], false) (nmS (x).ev (x).dn (x).bs))), some (.row false 2 (x).hd.length (rowE hdc hdz (x).hd))], ⟨(((x).pos : Nat) : Int), pr1, fun _ => rfl, rfl, rfl⟩, ?_⟩
    exact ⟨[0, 1, 2, 3], by decide, by simp only [entCtx, at_cons_zero, at_cons_succ, and_true, true_and]; exact ⟨soLe_blk (by simp [mapHL, SV.mapH, muL, flt, atR, tellR, textR]), soLe_same fun _ => rfl, soLe_same fun _ => rfl, soLe_same fun _ => rfl⟩, by simp only [↓XC, XV, XT, forall_const, implies_true, reduceIte, Nat.reduceAdd, Nat.reduceLT, Nat.reduceEqDiff, Nat.reduceBEq, Nat.reduceLeDiff, reduceCtorEq, Nat.reduceSub, Nat.reduceMul, Int.reduceToNat, Int.reduceLT, Int.reduceLE]; try first | rfl | simp [muL, SV.mapH, mapHL], by simp [newRw, SO.ro], by simp⟩

end Go.T84
