/- Own text: part FlowO. -/
import Derived.Test.YtkbcappnemjjnaaGreatBaseE
import Derived.Test.YtkbcappnemjjnaaGreatTypes2
import Derived.Test.YtkbcappnemjjnaaGreatTextA
import Derived.Test.YtkbcappnemjjnaaGreatEventA
import Derived.Test.YtkbcappnemjjnaaGreatLineA
import Derived.Test.YtkbcappnemjjnaaGreatRuneA
import Derived.Test.YtkbcappnemjjnaaGreatFoldA
import Derived.Test.YtkbcappnemjjnaaGreatQuotA
import Derived.Test.YtkbcappnemjjnaaGreatQuotB
import Derived.Test.YtkbcappnemjjnaaGreatFlowA
import Derived.Test.YtkbcappnemjjnaaGreatFlowB
import Derived.Test.YtkbcappnemjjnaaGreatFlowC
import Derived.Test.YtkbcappnemjjnaaGreatFlowJ
import Derived.Test.YtkbcappnemjjnaaGreatFlowK
import Derived.Test.YtkbcappnemjjnaaGreatFlowL
import Derived.Test.YtkbcappnemjjnaaGreatFlowM
import Derived.Test.YtkbcappnemjjnaaGreatFlowN
import Derived.Test.YtkbcappnemjjnaaGreatBaseF
set_option linter.unusedVariables false
set_option linter.unusedSimpArgs false
namespace Go.T85
open Go.Proofs Go.Vg Go.RowKit Go.TT Go.Pl Go.T8 Go.T12 Go.T60 Go.T61 Go.T62 Go.T63 Go.T64 Go.T70 Go.T71 Go.T72 Go.T80 Go.T81 Go.T82 Go.T83 Go.T84
set_option linter.unusedVariables false
set_option linter.unusedSimpArgs false
set_option maxRecDepth 10000
set_option maxHeartbeats 4000000
theorem snodeR (s : Bs) (hs : s.length ≤ 1048576) : ∀ (d : Nat) (r : Rd) (pr : Int), Ok s r → r.dp + d = 40 → NodeS Tryz.prog 11 s [] pr r (noF s d r) := by
  intro d
  induction d with
  | zero =>
    intro r pr ho hd
    refine snode s r pr id (fun r1 pr1 ha an tg pe h1 h2 hb => ?_) (fun r1 pr1 ha an tg pe h1 h2 hb => ?_) ⟨hs, ho⟩
    · exact sseq s r1 pr1 id ha an tg pe (fun h => by omega) ⟨hs, h1, byt_pos hb (by decide)⟩
    · exact smap s r1 pr1 (paR s id) ha an tg pe (fun h => by omega) ⟨hs, h1, byt_pos hb (by decide)⟩
  | succ d ih =>
    intro r pr ho hd
    have hit : ItOk s (r.dp + 1) (noF s d) := fun r1 h1 h2 h3 => noF_ok d r1 h1 (by omega) h3
    refine snode s r pr (noF s d) (fun r1 pr1 ha an tg pe h1 h2 hb => ?_) (fun r1 pr1 ha an tg pe h1 h2 hb => ?_) ⟨hs, ho⟩
    · exact sseq s r1 pr1 (noF s d) ha an tg pe (fun h => by rw [h2]; exact ⟨hit, fun r2 pr2 k1 k2 => ih r2 pr2 k1 (by omega)⟩) ⟨hs, h1, byt_pos hb (by decide)⟩
    · exact smap s r1 pr1 (paR s (noF s d)) ha an tg pe (fun h => by rw [h2]; exact ⟨fun r2 k1 k2 k3 => paR_ok k1 (by rw [k2]; exact hit) k3, fun r2 pr2 k1 k2 => spair s r2 pr2 (noF s d) (fun r3 pr3 m1 m2 => ih r3 pr3 m1 (by omega)) ⟨hs, k1⟩⟩) ⟨hs, h1, byt_pos hb (by decide)⟩
theorem send (s : Bs) (r : Rd) (pr : Int) (a : Int) (hp : True) : FnK Tryz.prog 12 4 [.ptr 0 0 0] [some (.blk false [.s s, .i .i64 a, .slc 1 0 (r).ev.length, .i .i64 (r).cd, .i .i64 ((r).pl : Nat), .i .i64 ((r).dp : Nat), .slc 2 0 (nmS (r).ev (r).dn (r).bs).length, .slc 3 0 (r).hd.length, .i .i64 pr]), some (.row false 8 (r).ev.length (rowE evc evz (r).ev)), some (.row false 2 (nmS (r).ev (r).dn (r).bs).length (rowE nac ([], false) (nmS (r).ev (r).dn (r).bs))), some (.row false 2 (r).hd.length (rowE hdc hdz (r).hd))] (fun z c => z = .tup [.slc 1 0 r.ev.length, .i .i64 (if r.cd = 0 then a else (r.pl : Nat)), .i .i64 r.cd] ∧ c = [some (.blk false [.s s, .i .i64 a, .slc 1 0 (r).ev.length, .i .i64 (r).cd, .i .i64 ((r).pl : Nat), .i .i64 ((r).dp : Nat), .slc 2 0 (nmS (r).ev (r).dn (r).bs).length, .slc 3 0 (r).hd.length, .i .i64 pr]), some (.row false 8 (r).ev.length (rowE evc evz (r).ev)), some (.row false 2 (nmS (r).ev (r).dn (r).bs).length (rowE nac ([], false) (nmS (r).ev (r).dn (r).bs))), some (.row false 2 (r).hd.length (rowE hdc hdz (r).hd))]) := by
  refine FnK.ofE (cf := mkCf Tryz.prog te [] 30 4 false (fun _ => false) (kp [(0, [0]), (1, [0, 9]), (2, [2, 3, 4]), (3, [2, 3, 4])]) [] [(2, [], [], .q1 0 (.q1 1 (.q1 2 (.q1 4 (.q1 5 (.q1 6 (.q1 8 (.q1 9 (.q1 10 (.q0 3 [3] (.q1 12 (.q0 7 [7] (.q1 13 (.q0 11 [11] (.q1 14 (.fin)))))))))))))))), (3, [], [], .q1 0 (.q1 1 (.q1 2 (.q1 4 (.q1 5 (.q1 6 (.q0 3 [3] (.q1 8 (.q0 7 [7] (.q1 9 (.q1 10 (.fin))))))))))))]) (mkCf_ok te_ok (l := []) (trivial) mixed_ok) Tryz.func12 rfl rfl rfl (by simp [mkCf]) (by simp [mkCf]) (rs := [.tmp 2, .tmp 3, .tmp 4]) rfl 100000 ?_
  simp only [↓XC, XV, XT, forall_const, implies_true, reduceIte, Nat.reduceAdd, Nat.reduceLT, Nat.reduceEqDiff, Nat.reduceBEq, Nat.reduceLeDiff, reduceCtorEq, Nat.reduceSub, Nat.reduceMul, Int.reduceToNat, Int.reduceLT, Int.reduceLE, TES, XRE, XR, XRH, XRN, flt, atR, tellR, textR]
  refine ⟨fun h => ?_, fun h => ?_⟩
  · rw [if_neg (by simpa using h)]
    exact ⟨by decide +kernel, ⟨[0, 1, 2, 3], by decide, by simp only [entCtx, at_cons_zero, at_cons_succ, and_true, true_and]; exact ⟨soLe_blk (by simp [mapHL, SV.mapH, muL, flt, atR, tellR, textR]), soLe_same fun _ => rfl, soLe_same fun _ => rfl, soLe_same fun _ => rfl⟩, by simp only [↓XC, XV, XT, forall_const, implies_true, reduceIte, Nat.reduceAdd, Nat.reduceLT, Nat.reduceEqDiff, Nat.reduceBEq, Nat.reduceLeDiff, reduceCtorEq, Nat.reduceSub, Nat.reduceMul, Int.reduceToNat, Int.reduceLT, Int.reduceLE]; try first | rfl | simp [muL, SV.mapH, mapHL], by simp [newRw, SO.ro], by simp⟩⟩
  · have h' : r.cd = 0 := by simpa using h
    rw [if_pos h', h']
    exact ⟨by decide +kernel, ⟨[0, 1, 2, 3], by decide, by simp only [entCtx, at_cons_zero, at_cons_succ, and_true, true_and]; exact ⟨soLe_blk (by simp [mapHL, SV.mapH, muL, h']), soLe_same fun _ => rfl, soLe_same fun _ => rfl, soLe_same fun _ => rfl⟩, by simp only [↓XC, XV, XT, forall_const, implies_true, reduceIte, Nat.reduceAdd, Nat.reduceLT, Nat.reduceEqDiff, Nat.reduceBEq, Nat.reduceLeDiff, reduceCtorEq, Nat.reduceSub, Nat.reduceMul, Int.reduceToNat, Int.reduceLT, Int.reduceLE]; try first | rfl | simp [muL, SV.mapH, mapHL], by simp [newRw, SO.ro], by simp⟩⟩
theorem FlowAt_s_own (s : Bs) (p : Int) (hp : s.length ≤ 1048576) : FnK Tryz.prog 4 0 [.s s, .i .i64 p] [] (fun z c => z = .tup [.slc 0 0 (flA s (spot s p)).ev.length, .i .i64 (toR (flA s (spot s p)) : Nat), .i .i64 (flA s (spot s p)).cd] ∧ c = [some (.row false 8 (flA s (spot s p)).ev.length (rowE evc evz (flA s (spot s p)).ev))]) := by
  refine FnK.ofE (cf := mkCf Tryz.prog te [(9, pe_spot_s)] 23 0 false (fun _ => false) (kp [(0, [0, 1]), (1, [7]), (2, [7, 15]), (3, [7]), (4, [4, 5, 6])]) [2] []) (mkCf_ok te_ok (l := [(9, pe_spot_s)]) (⟨pe_spot_s_ok, trivial⟩) mixed_ok) Tryz.func4 rfl rfl rfl (by simp [mkCf]) (by simp [mkCf]) (rs := [.tmp 4, .tmp 5, .tmp 6]) rfl 100000 ?_
  simp only [↓XC, XV, XT, forall_const, implies_true, reduceIte, Nat.reduceAdd, Nat.reduceLT, Nat.reduceEqDiff, Nat.reduceBEq, Nat.reduceLeDiff, reduceCtorEq, Nat.reduceSub, Nat.reduceMul, Int.reduceToNat, Int.reduceLT, Int.reduceLE, TES, pe_spot_s_eq, XRE, XR, XRH, XRN, flt, atR, tellR, textR, XM, XCut]
  have h0 := spot_le s p
  refine VCuts.of (ι := Unit) (fun _ => ⟨[(7, .ptr 0 0 0)], [some (.blk false [.s s, .i .i64 (((rdz (spot s p))).pos : Nat), .slc 1 0 ((rdz (spot s p))).ev.length, .i .i64 ((rdz (spot s p))).cd, .i .i64 (((rdz (spot s p))).pl : Nat), .i .i64 (((rdz (spot s p))).dp : Nat), .slc 2 0 (nmS ((rdz (spot s p))).ev ((rdz (spot s p))).dn ((rdz (spot s p))).bs).length, .slc 3 0 ((rdz (spot s p))).hd.length, .i .i64 0]), some (.row false 8 ((rdz (spot s p))).ev.length (rowE evc evz ((rdz (spot s p))).ev)), some (.row false 2 (nmS ((rdz (spot s p))).ev ((rdz (spot s p))).dn ((rdz (spot s p))).bs).length (rowE nac ([], false) (nmS ((rdz (spot s p))).ev ((rdz (spot s p))).dn ((rdz (spot s p))).bs))), some (.row false 2 ((rdz (spot s p))).hd.length (rowE hdc hdz ((rdz (spot s p))).hd))]⟩) ?_ ?_
  · simp only [↓XC, XV, XT, forall_const, implies_true, reduceIte, Nat.reduceAdd, Nat.reduceLT, Nat.reduceEqDiff, Nat.reduceBEq, Nat.reduceLeDiff, reduceCtorEq, Nat.reduceSub, Nat.reduceMul, Int.reduceToNat, Int.reduceLT, Int.reduceLE, TES, pe_spot_s_eq, XRE, XR, XRH, XRN, flt, atR, tellR, textR, XM, XCut]
    exact ⟨(), Ent.nl (env' := [(7, .ptr 0 0 0)]) (d := [some (.blk false [.s s, .i .i64 (spot s p : Nat), .slc 1 0 0, .i .i64 0, .i .i64 0, .i .i64 0, .slc 2 0 0, .slc 3 0 0, .i .i64 0])]) [(8, rowE evc evz []), (2, rowE nac ([], false) []), (2, rowE hdc hdz [])] (by simp [nlE, nlV, Vg.look]) (by simp [nlC, nlO, nlL, nlV])⟩
  rintro ⟨⟩
  simp only [↓XC, XV, XT, forall_const, implies_true, reduceIte, Nat.reduceAdd, Nat.reduceLT, Nat.reduceEqDiff, Nat.reduceBEq, Nat.reduceLeDiff, reduceCtorEq, Nat.reduceSub, Nat.reduceMul, Int.reduceToNat, Int.reduceLT, Int.reduceLE, TES, XRE, XR, XRH, XRN, flt, atR, tellR, textR, XM, XCut]
  have hz0 : Ok s (rdz (spot s p)) := ⟨rfl, h0, rfl, Nat.zero_le _, by simp [rdz], by simp [rdz], by simp [rdz], fun h hh => by simp [rdz] at hh⟩
  obtain ⟨g, hg⟩ : ∃ g, g = gapR s (rdz (spot s p)) := ⟨_, rfl⟩
  have hT : ∀ (t : Rd) (a : Int), (t.cd = 0 → a = ((t.pos : Nat) : Int)) → ((if t.cd = 0 then a else (t.pl : Nat)) : Int) = (toR t : Nat) := fun t a ha => by
    unfold toR
    by_cases h : t.cd = 0
    · rw [if_pos h, if_neg (by simpa using h), ha h]
    · rw [if_neg h, if_pos h]
  refine XCalls.mut (sgap s (rdz (spot s p)) 0 ⟨hp, rfl, h0⟩) rfl [0, 1, 2, 3] (by simp [mapHL, SV.mapH, muL]) (by simp only [ctxMap, at_cons_zero, at_cons_succ, and_true, List.length_cons, List.length_nil]; exact ⟨by omega, soLe_blk (by simp [mapHL, SV.mapH, muL, flt, atR, tellR, textR]), by omega, soLe_same fun _ => rfl, by omega, soLe_same fun _ => rfl, by omega, soLe_same fun _ => rfl⟩) (by decide) ?_
  simp only [↓XC, XV, XT, forall_const, implies_true, reduceIte, Nat.reduceAdd, Nat.reduceLT, Nat.reduceEqDiff, Nat.reduceBEq, Nat.reduceLeDiff, reduceCtorEq, Nat.reduceSub, Nat.reduceMul, Int.reduceToNat, Int.reduceLT, Int.reduceLE, TES, XRE, XR, XRH, XRN, flt, atR, tellR, textR, XM, XCut, XM]
  rw [← hg]
  refine ⟨fun h1 => ?_, fun h1 => ?_⟩
  · have hgz : g.cd = 0 := by simpa using h1
    have hgo : Ok s g := by rw [hg]; exact hz0.gap (by rw [← hg]; exact hgz)
    have hgd : g.dp + 40 = 40 := by rw [hg, (gapR_ok (by rw [← hg]; exact hgz)).1]; rfl
    have hN := snodeR s hp 40 g 0 hgo hgd
    unfold NodeS spC at hN
    have e : flA s (spot s p) = noF s 40 g := by unfold flA; rw [← hg, if_neg (by simpa using hgz)]
    rw [e]
    refine XCalls.rebQ (hN) [0, 1, 2, 3] (by simp [mapHL, SV.mapH, muL]) (by simp only [ctxMap, at_cons_zero, at_cons_succ, and_true, List.length_cons, List.length_nil]; exact ⟨by omega, soLe_blk (by simp [mapHL, SV.mapH, muL, flt, atR, tellR, textR]), by omega, soLe_same fun _ => rfl, by omega, soLe_same fun _ => rfl, by omega, soLe_same fun _ => rfl⟩) (by decide) (by simp [newRw, SO.ro]) (by decide) (by simp [cleanC, upds, cleanO, noHL, noH, SO.ro, litEl]) ?_
    rintro z c ⟨a2, pr2, ha2, rfl, rfl⟩
    simp only [↓XC, XV, XT, forall_const, implies_true, reduceIte, Nat.reduceAdd, Nat.reduceLT, Nat.reduceEqDiff, Nat.reduceBEq, Nat.reduceLeDiff, reduceCtorEq, Nat.reduceSub, Nat.reduceMul, Int.reduceToNat, Int.reduceLT, Int.reduceLE, TES, XRE, XR, XRH, XRN, flt, atR, tellR, textR, XCut, XM]
    clear hN
    generalize noF s 40 g = t at *
    refine XCalls.mut (send s t pr2 a2 trivial) rfl [0, 1, 2, 3] (by simp [mapHL, SV.mapH, muL]) (by simp only [ctxMap, at_cons_zero, at_cons_succ, and_true, List.length_cons, List.length_nil]; exact ⟨by omega, soLe_blk (by simp [mapHL, SV.mapH, muL, flt, atR, tellR, textR]), by omega, soLe_same fun _ => rfl, by omega, soLe_same fun _ => rfl, by omega, soLe_same fun _ => rfl⟩) (by decide) ?_
    simp only [↓XC, XV, XT, forall_const, implies_true, reduceIte, Nat.reduceAdd, Nat.reduceLT, Nat.reduceEqDiff, Nat.reduceBEq, Nat.reduceLeDiff, reduceCtorEq, Nat.reduceSub, Nat.reduceMul, Int.reduceToNat, Int.reduceLT, Int.reduceLE, TES, XRE, XR, XRH, XRN, flt, atR, tellR, textR, XM]
    rw [hT t a2 ha2]
    exact ⟨[1], by decide, by simp only [entCtx, at_cons_zero, at_cons_succ, and_true, true_and]; exact soLe_same fun _ => rfl, by simp only [↓XC, XV, XT, forall_const, implies_true, reduceIte, Nat.reduceAdd, Nat.reduceLT, Nat.reduceEqDiff, Nat.reduceBEq, Nat.reduceLeDiff, reduceCtorEq, Nat.reduceSub, Nat.reduceMul, Int.reduceToNat, Int.reduceLT, Int.reduceLE]; try simp [muL, SV.mapH, mapHL], by simp [newRw, SO.ro], by simp⟩
  · have hgz : ¬ g.cd = 0 := by simpa using h1
    have e : flA s (spot s p) = g := by unfold flA; rw [← hg, if_pos hgz]
    rw [e]
    refine XCalls.mut (send s g 0 (g.pos : Nat) trivial) rfl [0, 1, 2, 3] (by simp [mapHL, SV.mapH, muL]) (by simp only [ctxMap, at_cons_zero, at_cons_succ, and_true, List.length_cons, List.length_nil]; exact ⟨by omega, soLe_blk (by simp [mapHL, SV.mapH, muL, flt, atR, tellR, textR]), by omega, soLe_same fun _ => rfl, by omega, soLe_same fun _ => rfl, by omega, soLe_same fun _ => rfl⟩) (by decide) ?_
    simp only [↓XC, XV, XT, forall_const, implies_true, reduceIte, Nat.reduceAdd, Nat.reduceLT, Nat.reduceEqDiff, Nat.reduceBEq, Nat.reduceLeDiff, reduceCtorEq, Nat.reduceSub, Nat.reduceMul, Int.reduceToNat, Int.reduceLT, Int.reduceLE, TES, XRE, XR, XRH, XRN, flt, atR, tellR, textR, XM]
    rw [hT g _ (fun _ => rfl)]
    exact ⟨[1], by decide, by simp only [entCtx, at_cons_zero, at_cons_succ, and_true, true_and]; exact soLe_same fun _ => rfl, by simp only [↓XC, XV, XT, forall_const, implies_true, reduceIte, Nat.reduceAdd, Nat.reduceLT, Nat.reduceEqDiff, Nat.reduceBEq, Nat.reduceLeDiff, reduceCtorEq, Nat.reduceSub, Nat.reduceMul, Int.reduceToNat, Int.reduceLT, Int.reduceLE]; try simp [muL, SV.mapH, mapHL], by simp [newRw, SO.ro], by simp⟩
end Go.T85
