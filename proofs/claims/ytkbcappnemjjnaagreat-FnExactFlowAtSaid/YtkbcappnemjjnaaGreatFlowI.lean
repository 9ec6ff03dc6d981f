/- Own text: part FlowI. -/
import Derived.Test.YtkbcappnemjjnaaGreatBaseE
import Derived.Test.YtkbcappnemjjnaaGreatTypes2
import Derived.Test.YtkbcappnemjjnaaGreatTextA
import Derived.Test.YtkbcappnemjjnaaGreatEventA
import Derived.Test.YtkbcappnemjjnaaGreatLineA
import Derived.Test.YtkbcappnemjjnaaGreatRuneA
import Derived.Test.YtkbcappnemjjnaaGreatFoldA
import Derived.Test.YtkbcappnemjjnaaGreatQuotA
import Derived.Test.YtkbcappnemjjnaaGreatQuotB
import Derived.Test.YtkbcappnemjjnaaGreatFlowA
import Derived.Test.YtkbcappnemjjnaaGreatFlowB
import Derived.Test.YtkbcappnemjjnaaGreatFlowC
import Derived.Test.YtkbcappnemjjnaaGreatFlowD
import Derived.Test.YtkbcappnemjjnaaGreatFlowE
import Derived.Test.YtkbcappnemjjnaaGreatFlowF
import Derived.Test.YtkbcappnemjjnaaGreatFlowG
import Derived.Test.YtkbcappnemjjnaaGreatFlowH
import Derived.Test.YtkbcappnemjjnaaGreatBaseF
set_option linter.unusedVariables false
set_option linter.unusedSimpArgs false
namespace Go.T78
open Go.Proofs Go.Vg Go.RowKit Go.TT Go.Pl Go.T8 Go.T12 Go.T60 Go.T61 Go.T62 Go.T63 Go.T64 Go.T70 Go.T71 Go.T72 Go.T73 Go.T74 Go.T75 Go.T76 Go.T77
set_option linter.unusedVariables false
set_option linter.unusedSimpArgs false
set_option maxRecDepth 10000
set_option maxHeartbeats 4000000
theorem rnode (s : Bs) (fr : Bool) (la : Int) (hs : s.length ≤ 1048576) : ∀ (d : Nat) (r : Rd), Ok s r → r.dp + d = 40 → NodeC Tryz.prog 15 s fr la [] r (noF s d r) := by
  intro d
  induction d with
  | zero =>
    intro r ho hd
    refine rflowNode s r fr la id (fun r1 ha an tg pf pe h1 h2 => ?_) ⟨hs, ho⟩
    refine rflowBody s r1 fr la id ha an tg pf pe (fun hb => ?_) (fun hb => ?_) ⟨hs, h1⟩
    · exact rflowList s r1 fr la id ha an tg pf pe (fun h => by omega) ⟨hs, h1, byt_pos hb (by decide)⟩
    · exact rflowMap s r1 fr la (paR s id) ha an tg pf pe (fun h => by omega) ⟨hs, h1, byt_pos hb (by decide)⟩
  | succ d ih =>
    intro r ho hd
    have hit : ItOk s (r.dp + 1) (noF s d) := fun r1 h1 h2 h3 => noF_ok d r1 h1 (by omega) h3
    refine rflowNode s r fr la (noF s d) (fun r1 ha an tg pf pe h1 h2 => ?_) ⟨hs, ho⟩
    refine rflowBody s r1 fr la (noF s d) ha an tg pf pe (fun hb => ?_) (fun hb => ?_) ⟨hs, h1⟩
    · exact rflowList s r1 fr la (noF s d) ha an tg pf pe (fun h => by rw [h2]; exact ⟨hit, fun r2 k1 k2 => ih r2 k1 (by omega)⟩) ⟨hs, h1, byt_pos hb (by decide)⟩
    · exact rflowMap s r1 fr la (paR s (noF s d)) ha an tg pf pe (fun h => by rw [h2]; exact ⟨fun r2 k1 k2 k3 => paR_ok k1 (by rw [k2]; exact hit) k3, fun r2 k1 k2 => rflowPair s r2 fr la (noF s d) (fun r3 m1 m2 => ih r3 m1 (by omega)) ⟨hs, k1⟩⟩) ⟨hs, h1, byt_pos hb (by decide)⟩
theorem newReader_own (s : Bs) (p : Int) (hp : s.length ≤ 1048576) : FnK Tryz.prog 13 0 [.s s, .i .i64 p] [] (fun z c => z = .ptr 0 0 0 ∧ c = [some (.blk false [.s s, .i .i64 (((rdz (spot s p))).pos : Nat), .slc 1 0 ((rdz (spot s p))).ev.length, .slc 2 0 ((rdz (spot s p))).ev.length, .mp 3, .slc 4 0 ((rdz (spot s p))).hd.length, .i .i64 (((rdz (spot s p))).dp : Nat), .i .i64 ((rdz (spot s p))).cd, .i .i64 (((rdz (spot s p))).pl : Nat), .b false, .i .i64 0]), some (.row false 8 ((rdz (spot s p))).ev.length (rowE evc evz ((rdz (spot s p))).ev)), some (.row false 1 ((rdz (spot s p))).ev.length (rowE booc false ((rdz (spot s p))).dn)), some (.mapS (nmI ((rdz (spot s p))).ev ((rdz (spot s p))).bs)), some (.row false 2 ((rdz (spot s p))).hd.length (rowE hdc hdz ((rdz (spot s p))).hd))]) := by
  refine FnK.ofX (cf := mkCf Tryz.prog te [(28, pe_spot_i)] 12 0 false (fun _ => false) (kp [(0, [0, 1]), (1, [4])]) [] []) (mkCf_ok te_ok (l := [(28, pe_spot_i)]) (⟨pe_spot_i_ok, trivial⟩) mixed_ok) Tryz.func13 rfl rfl rfl (by simp [mkCf]) (by simp [mkCf]) (rs := [.tmp 4]) rfl 100000 ?_
  simp only [↓XC, XV, XT, forall_const, implies_true, reduceIte, Nat.reduceAdd, Nat.reduceLT, Nat.reduceEqDiff, Nat.reduceBEq, Nat.reduceLeDiff, reduceCtorEq, Nat.reduceSub, Nat.reduceMul, Int.reduceToNat, Int.reduceLT, Int.reduceLE, TES, pe_spot_i_eq, XRE, XR, XRH, flt, atR, tellR, textR]
  exact ⟨_, Ent.nl (env' := [(4, .ptr 1 0 0)]) (d := [some (.mapS []), some (.blk false [.s s, .i .i64 (spot s p : Nat), .slc 2 0 0, .slc 3 0 0, .mp 0, .slc 4 0 0, .i .i64 0, .i .i64 0, .i .i64 0, .b false, .i .i64 0])]) [(8, rowE evc evz []), (1, rowE booc false []), (2, rowE hdc hdz [])] (by simp [nlE, nlV, Vg.look]) (by simp [nlC, nlO, nlL, nlV]), ⟨[1, 2, 3, 0, 4], by decide, by simp only [entCtx, at_cons_zero, at_cons_succ, and_true, true_and]; exact ⟨soLe_blk (by simp [mapHL, SV.mapH, muL, rdz]), soLe_same fun _ => rfl, soLe_same fun _ => rfl, soLe_map, soLe_same fun _ => rfl⟩, by simp only [↓XC, XV, XT, forall_const, implies_true, reduceIte, Nat.reduceAdd, Nat.reduceLT, Nat.reduceEqDiff, Nat.reduceBEq, Nat.reduceLeDiff, reduceCtorEq, Nat.reduceSub, Nat.reduceMul, Int.reduceToNat, Int.reduceLT, Int.reduceLE]; try first | rfl | simp [muL, SV.mapH, mapHL], by simp [newRw, SO.ro], by simp⟩⟩
theorem rtold (s : Bs) (r : Rd) (fr : Bool) (la : Int) (at0 : Int) (hp : True) : FnK Tryz.prog 16 5 [.ptr 0 0 0, .i .i64 at0] [some (.blk false [.s s, .i .i64 ((r).pos : Nat), .slc 1 0 (r).ev.length, .slc 2 0 (r).ev.length, .mp 3, .slc 4 0 (r).hd.length, .i .i64 ((r).dp : Nat), .i .i64 (r).cd, .i .i64 ((r).pl : Nat), .b fr, .i .i64 la]), some (.row false 8 (r).ev.length (rowE evc evz (r).ev)), some (.row false 1 (r).ev.length (rowE booc false (r).dn)), some (.mapS (nmI (r).ev (r).bs)), some (.row false 2 (r).hd.length (rowE hdc hdz (r).hd))] (fun z c => z = .tup [.slc 1 0 r.ev.length, .i .i64 (if r.cd = 0 then at0 else r.pl), .i .i64 r.cd] ∧ c = [some (.blk false [.s s, .i .i64 ((r).pos : Nat), .slc 1 0 (r).ev.length, .slc 2 0 (r).ev.length, .mp 3, .slc 4 0 (r).hd.length, .i .i64 ((r).dp : Nat), .i .i64 (r).cd, .i .i64 ((r).pl : Nat), .b fr, .i .i64 la]), some (.row false 8 (r).ev.length (rowE evc evz (r).ev)), some (.row false 1 (r).ev.length (rowE booc false (r).dn)), some (.mapS (nmI (r).ev (r).bs)), some (.row false 2 (r).hd.length (rowE hdc hdz (r).hd))]) := by
  refine FnK.ofE (cf := mkCf Tryz.prog te [] 29 5 false (fun _ => false) (kp [(0, [0, 1]), (1, [0, 1, 11]), (2, [4, 5, 6]), (3, [4, 5, 6])]) [] [(2, [], [], .q1 0 (.q1 1 (.q1 2 (.q1 4 (.q1 5 (.q1 6 (.q1 8 (.q1 9 (.q1 10 (.q0 3 [3] (.q1 12 (.q0 7 [7] (.q1 13 (.q0 11 [11] (.q1 14 (.fin))))))))))))))))]) (mkCf_ok te_ok (l := []) (trivial) mixed_ok) Tryz.func16 rfl rfl rfl (by simp [mkCf]) (by simp [mkCf]) (rs := [.tmp 4, .tmp 5, .tmp 6]) rfl 100000 ?_
  simp only [↓XC, XV, XT, forall_const, implies_true, reduceIte, Nat.reduceAdd, Nat.reduceLT, Nat.reduceEqDiff, Nat.reduceBEq, Nat.reduceLeDiff, reduceCtorEq, Nat.reduceSub, Nat.reduceMul, Int.reduceToNat, Int.reduceLT, Int.reduceLE, TES, XRE, XR, XRH, flt, atR, tellR, textR]
  refine ⟨fun h => ⟨by decide +kernel, ?_⟩, fun h => ?_⟩
  · rw [if_neg (by simpa using h)]
    exact ⟨[0, 1, 2, 3, 4], by decide, by simp only [entCtx, at_cons_zero, at_cons_succ, and_true, true_and]; exact ⟨soLe_blk (by simp [mapHL, SV.mapH, muL, flt, atR, tellR, textR]), soLe_same fun _ => rfl, soLe_same fun _ => rfl, soLe_map, soLe_same fun _ => rfl⟩, by simp only [↓XC, XV, XT, forall_const, implies_true, reduceIte, Nat.reduceAdd, Nat.reduceLT, Nat.reduceEqDiff, Nat.reduceBEq, Nat.reduceLeDiff, reduceCtorEq, Nat.reduceSub, Nat.reduceMul, Int.reduceToNat, Int.reduceLT, Int.reduceLE]; try first | rfl | simp [muL, SV.mapH, mapHL], by simp [newRw, SO.ro], by simp⟩
  · have h' : r.cd = 0 := by simpa using h
    rw [if_pos h', h']
    exact ⟨[0, 1, 2, 3, 4], by decide, by simp only [entCtx, at_cons_zero, at_cons_succ, and_true, true_and]; exact ⟨soLe_blk (by simp [mapHL, SV.mapH, muL, h']), soLe_same fun _ => rfl, soLe_same fun _ => rfl, soLe_map, soLe_same fun _ => rfl⟩, by simp only [↓XC, XV, XT, forall_const, implies_true, reduceIte, Nat.reduceAdd, Nat.reduceLT, Nat.reduceEqDiff, Nat.reduceBEq, Nat.reduceLeDiff, reduceCtorEq, Nat.reduceSub, Nat.reduceMul, Int.reduceToNat, Int.reduceLT, Int.reduceLE]; try first | rfl | simp [muL, SV.mapH, mapHL], by simp [newRw, SO.ro], by simp⟩
theorem FlowAt_i_own (s : Bs) (p : Int) (hp : s.length ≤ 1048576) : FnK Tryz.prog 5 0 [.s s, .i .i64 p] [] (fun z c => z = .tup [.slc 0 0 (flA s (spot s p)).ev.length, .i .i64 (toR (flA s (spot s p)) : Nat), .i .i64 (flA s (spot s p)).cd] ∧ c = [some (.row false 8 (flA s (spot s p)).ev.length (rowE evc evz (flA s (spot s p)).ev))]) := by
  refine FnK.ofE (cf := mkCf Tryz.prog te [] 24 0 false (fun _ => false) (kp [(0, [0, 1]), (1, [7]), (2, [7, 12]), (3, [7]), (4, [4, 5, 6])]) [] []) (mkCf_ok te_ok (l := []) (trivial) mixed_ok) Tryz.func5 rfl rfl rfl (by simp [mkCf]) (by simp [mkCf]) (rs := [.tmp 4, .tmp 5, .tmp 6]) rfl 100000 ?_
  simp only [↓XC, XV, XT, forall_const, implies_true, reduceIte, Nat.reduceAdd, Nat.reduceLT, Nat.reduceEqDiff, Nat.reduceBEq, Nat.reduceLeDiff, reduceCtorEq, Nat.reduceSub, Nat.reduceMul, Int.reduceToNat, Int.reduceLT, Int.reduceLE, TES, XRE, XR, XRH, flt, atR, tellR, textR]
  have h0 := spot_le s p
  refine XCalls.own (newReader_own s p hp) rfl ?_
  simp only [↓XC, XV, XT, forall_const, implies_true, reduceIte, Nat.reduceAdd, Nat.reduceLT, Nat.reduceEqDiff, Nat.reduceBEq, Nat.reduceLeDiff, reduceCtorEq, Nat.reduceSub, Nat.reduceMul, Int.reduceToNat, Int.reduceLT, Int.reduceLE, TES, XRE, XR, XRH, flt, atR, tellR, textR, XM]
  have hz0 : Ok s (rdz (spot s p)) := ⟨rfl, h0, rfl, Nat.zero_le _, by simp [rdz], by simp [rdz], by simp [rdz], fun h hh => by simp [rdz] at hh⟩
  obtain ⟨g, hg⟩ : ∃ g, g = gapR s (rdz (spot s p)) := ⟨_, rfl⟩
  have hT : ∀ t : Rd, ((if t.cd = 0 then ((t.pos : Nat) : Int) else (t.pl : Nat)) : Int) = (toR t : Nat) := fun t => by
    unfold toR
    by_cases h : t.cd = 0
    · rw [if_pos h, if_neg (by simpa using h)]
    · rw [if_neg h, if_pos h]
  refine XCalls.mut (rgap s (rdz (spot s p)) false 0 ⟨hp, rfl, h0⟩) rfl [0, 1, 2, 3, 4] (by simp [mapHL, SV.mapH, muL]) (by simp only [ctxMap, at_cons_zero, at_cons_succ, and_true, List.length_cons, List.length_nil]; exact ⟨by omega, soLe_blk (by simp [mapHL, SV.mapH, muL, flt, atR, tellR, textR]), by omega, soLe_same fun _ => rfl, by omega, soLe_same fun _ => rfl, by omega, soLe_map, by omega, soLe_same fun _ => rfl⟩) (by decide) ?_
  simp only [↓XC, XV, XT, forall_const, implies_true, reduceIte, Nat.reduceAdd, Nat.reduceLT, Nat.reduceEqDiff, Nat.reduceBEq, Nat.reduceLeDiff, reduceCtorEq, Nat.reduceSub, Nat.reduceMul, Int.reduceToNat, Int.reduceLT, Int.reduceLE, TES, XRE, XR, XRH, flt, atR, tellR, textR, XM]
  rw [← hg]
  refine ⟨fun h1 => ?_, fun h1 => ?_⟩
  · have hgz : g.cd = 0 := by simpa using h1
    have hgo : Ok s g := by rw [hg]; exact hz0.gap (by rw [← hg]; exact hgz)
    have hgd : g.dp + 40 = 40 := by rw [hg, (gapR_ok (by rw [← hg]; exact hgz)).1]; rfl
    have hN := rnode s false 0 hp 40 g hgo hgd
    unfold NodeC rdC at hN
    have e : flA s (spot s p) = noF s 40 g := by unfold flA; rw [← hg, if_neg (by simpa using hgz)]
    rw [e]
    refine XCalls.reb (hN) [0, 1, 2, 3, 4] (by simp [mapHL, SV.mapH, muL]) (by simp only [ctxMap, at_cons_zero, at_cons_succ, and_true, List.length_cons, List.length_nil]; exact ⟨by omega, soLe_blk (by simp [mapHL, SV.mapH, muL, flt, atR, tellR, textR]), by omega, soLe_same fun _ => rfl, by omega, soLe_same fun _ => rfl, by omega, soLe_map, by omega, soLe_same fun _ => rfl⟩) (by decide) (by simp [newRw, SO.ro]) (by decide) (by simp [cleanC, upds, cleanO, noHL, noH, SO.ro, litEl]) ?_
    simp only [↓XC, XV, XT, forall_const, implies_true, reduceIte, Nat.reduceAdd, Nat.reduceLT, Nat.reduceEqDiff, Nat.reduceBEq, Nat.reduceLeDiff, reduceCtorEq, Nat.reduceSub, Nat.reduceMul, Int.reduceToNat, Int.reduceLT, Int.reduceLE, TES, XRE, XR, XRH, flt, atR, tellR, textR, XM]
    generalize noF s 40 g = t at *
    refine XCalls.mut (rtold s t false 0 (t.pos : Nat) trivial) rfl [0, 1, 2, 3, 4] (by simp [mapHL, SV.mapH, muL]) (by simp only [ctxMap, at_cons_zero, at_cons_succ, and_true, List.length_cons, List.length_nil]; exact ⟨by omega, soLe_blk (by simp [mapHL, SV.mapH, muL, flt, atR, tellR, textR]), by omega, soLe_same fun _ => rfl, by omega, soLe_same fun _ => rfl, by omega, soLe_map, by omega, soLe_same fun _ => rfl⟩) (by decide) ?_
    simp only [↓XC, XV, XT, forall_const, implies_true, reduceIte, Nat.reduceAdd, Nat.reduceLT, Nat.reduceEqDiff, Nat.reduceBEq, Nat.reduceLeDiff, reduceCtorEq, Nat.reduceSub, Nat.reduceMul, Int.reduceToNat, Int.reduceLT, Int.reduceLE, TES, XRE, XR, XRH, flt, atR, tellR, textR, XM]
    rw [hT]
    exact ⟨[1], by decide, by simp only [entCtx, at_cons_zero, at_cons_succ, and_true, true_and]; exact soLe_same fun _ => rfl, by simp only [↓XC, XV, XT, forall_const, implies_true, reduceIte, Nat.reduceAdd, Nat.reduceLT, Nat.reduceEqDiff, Nat.reduceBEq, Nat.reduceLeDiff, reduceCtorEq, Nat.reduceSub, Nat.reduceMul, Int.reduceToNat, Int.reduceLT, Int.reduceLE]; try simp [muL, SV.mapH, mapHL], by simp [newRw, SO.ro], by simp⟩
  · have hgz : ¬ g.cd = 0 := by simpa using h1
    have e : flA s (spot s p) = g := by unfold flA; rw [← hg, if_pos hgz]
    rw [e]
    refine XCalls.mut (rtold s g false 0 (g.pos : Nat) trivial) rfl [0, 1, 2, 3, 4] (by simp [mapHL, SV.mapH, muL]) (by simp only [ctxMap, at_cons_zero, at_cons_succ, and_true, List.length_cons, List.length_nil]; exact ⟨by omega, soLe_blk (by simp [mapHL, SV.mapH, muL, flt, atR, tellR, textR]), by omega, soLe_same fun _ => rfl, by omega, soLe_same fun _ => rfl, by omega, soLe_map, by omega, soLe_same fun _ => rfl⟩) (by decide) ?_
    simp only [↓XC, XV, XT, forall_const, implies_true, reduceIte, Nat.reduceAdd, Nat.reduceLT, Nat.reduceEqDiff, Nat.reduceBEq, Nat.reduceLeDiff, reduceCtorEq, Nat.reduceSub, Nat.reduceMul, Int.reduceToNat, Int.reduceLT, Int.reduceLE, TES, XRE, XR, XRH, flt, atR, tellR, textR, XM]
    rw [hT]
    exact ⟨[1], by decide, by simp only [entCtx, at_cons_zero, at_cons_succ, and_true, true_and]; exact soLe_same fun _ => rfl, by simp only [↓XC, XV, XT, forall_const, implies_true, reduceIte, Nat.reduceAdd, Nat.reduceLT, Nat.reduceEqDiff, Nat.reduceBEq, Nat.reduceLeDiff, reduceCtorEq, Nat.reduceSub, Nat.reduceMul, Int.reduceToNat, Int.reduceLT, Int.reduceLE]; try simp [muL, SV.mapH, mapHL], by simp [newRw, SO.ro], by simp⟩
end Go.T78
