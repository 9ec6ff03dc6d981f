/- Own text: part FlowM. -/
import Derived.Test.YtkbcappnemjjnaaGreatBaseE
import Derived.Test.YtkbcappnemjjnaaGreatTypes2
import Derived.Test.YtkbcappnemjjnaaGreatTextA
import Derived.Test.YtkbcappnemjjnaaGreatEventA
import Derived.Test.YtkbcappnemjjnaaGreatLineA
import Derived.Test.YtkbcappnemjjnaaGreatRuneA
import Derived.Test.YtkbcappnemjjnaaGreatFoldA
import Derived.Test.YtkbcappnemjjnaaGreatQuotA
import Derived.Test.YtkbcappnemjjnaaGreatQuotB
import Derived.Test.YtkbcappnemjjnaaGreatFlowA
import Derived.Test.YtkbcappnemjjnaaGreatFlowB
import Derived.Test.YtkbcappnemjjnaaGreatFlowC
import Derived.Test.YtkbcappnemjjnaaGreatFlowJ
import Derived.Test.YtkbcappnemjjnaaGreatFlowK
import Derived.Test.YtkbcappnemjjnaaGreatFlowL
import Derived.Test.YtkbcappnemjjnaaGreatBaseF
set_option linter.unusedVariables false
set_option linter.unusedSimpArgs false
namespace Go.T83
open Go.Proofs Go.Vg Go.RowKit Go.TT Go.Pl Go.T8 Go.T12 Go.T60 Go.T61 Go.T62 Go.T63 Go.T64 Go.T70 Go.T71 Go.T72 Go.T80 Go.T81 Go.T82
set_option linter.unusedVariables false
set_option linter.unusedSimpArgs false
set_option maxRecDepth 10000
set_option maxHeartbeats 4000000
theorem sseq (s : Bs) (r : Rd) (pr : Int) (it : Rd → Rd) (ha : Bool) (an tg : Bs) (pe : Nat) (HI : r.dp < 40 → ItOk s (r.dp + 1) it ∧ ∀ (r1 : Rd) (pr1 : Int), Ok s r1 → r1.dp = r.dp + 1 → NodeS Tryz.prog 11 s [] pr1 r1 (it r1)) (hp : s.length ≤ 1048576 ∧ Ok s r ∧ r.pos < s.length) : FnK Tryz.prog 23 1 [.ptr 0 0 0, .agg [.i .i64 0, .i .i64 0, .b false, .s [], .s an, .s tg, .i .i64 0, .i .i64 0]] [some (.blk false [.s s, .i .i64 ((r).pos : Nat), .slc 1 0 (r).ev.length, .i .i64 (r).cd, .i .i64 ((r).pl : Nat), .i .i64 ((r).dp : Nat), .slc 2 0 (nmS (r).ev (r).dn (r).bs).length, .slc 3 0 (r).hd.length, .i .i64 pr]), some (.row false 8 (r).ev.length (rowE evc evz (r).ev)), some (.row false 2 (nmS (r).ev (r).dn (r).bs).length (rowE nac ([], false) (nmS (r).ev (r).dn (r).bs))), some (.row false 2 (r).hd.length (rowE hdc hdz (r).hd))] (fun z c => ∃ (a pr' : Int), (((coR s it 93 3 r (⟨ha, an, tg, pe⟩ : Pp))).cd = 0 → a = ((((coR s it 93 3 r (⟨ha, an, tg, pe⟩ : Pp))).pos : Nat) : Int)) ∧ z = .tup [] ∧ c = [some (.blk false [.s s, .i .i64 a, .slc 1 0 ((coR s it 93 3 r (⟨ha, an, tg, pe⟩ : Pp))).ev.length, .i .i64 ((coR s it 93 3 r (⟨ha, an, tg, pe⟩ : Pp))).cd, .i .i64 (((coR s it 93 3 r (⟨ha, an, tg, pe⟩ : Pp))).pl : Nat), .i .i64 (((coR s it 93 3 r (⟨ha, an, tg, pe⟩ : Pp))).dp : Nat), .slc 2 0 (nmS ((coR s it 93 3 r (⟨ha, an, tg, pe⟩ : Pp))).ev ((coR s it 93 3 r (⟨ha, an, tg, pe⟩ : Pp))).dn ((coR s it 93 3 r (⟨ha, an, tg, pe⟩ : Pp))).bs).length, .slc 3 0 ((coR s it 93 3 r (⟨ha, an, tg, pe⟩ : Pp))).hd.length, .i .i64 pr']), some (.row false 8 ((coR s it 93 3 r (⟨ha, an, tg, pe⟩ : Pp))).ev.length (rowE evc evz ((coR s it 93 3 r (⟨ha, an, tg, pe⟩ : Pp))).ev)), some (.row false 2 (nmS ((coR s it 93 3 r (⟨ha, an, tg, pe⟩ : Pp))).ev ((coR s it 93 3 r (⟨ha, an, tg, pe⟩ : Pp))).dn ((coR s it 93 3 r (⟨ha, an, tg, pe⟩ : Pp))).bs).length (rowE nac ([], false) (nmS ((coR s it 93 3 r (⟨ha, an, tg, pe⟩ : Pp))).ev ((coR s it 93 3 r (⟨ha, an, tg, pe⟩ : Pp))).dn ((coR s it 93 3 r (⟨ha, an, tg, pe⟩ : Pp))).bs))), some (.row false 2 ((coR s it 93 3 r (⟨ha, an, tg, pe⟩ : Pp))).hd.length (rowE hdc hdz ((coR s it 93 3 r (⟨ha, an, tg, pe⟩ : Pp))).hd))]) := by
  refine FnK.ofQ (cf := mkCf Tryz.prog te [] 68 1 false (fun i => i == 3 || i == 8) (kp [(0, [0, 3]), (1, [0, 4]), (2, [0, 4]), (3, [0, 4, 23]), (4, [0, 4, 26]), (5, [0, 4]), (6, []), (7, [0, 4]), (8, [0, 4, 48]), (9, [0, 4, 51]), (10, [0, 4]), (11, [0, 4, 61]), (12, [0, 4])]) [] []) (mkCf_ok te_ok (l := []) (trivial) mixed_ok) Tryz.func23 rfl rfl rfl (by simp [mkCf]) (by simp [mkCf]) (rs := []) rfl 100000 ?_
  simp only [↓XC, XV, XT, forall_const, implies_true, reduceIte, Nat.reduceAdd, Nat.reduceLT, Nat.reduceEqDiff, Nat.reduceBEq, Nat.reduceLeDiff, reduceCtorEq, Nat.reduceSub, Nat.reduceMul, Int.reduceToNat, Int.reduceLT, Int.reduceLE, TES, XRE, XR, XRH, XRN, flt, atR, tellR, textR, ↓xguard_on, ↓xguard_no, ↓xguard_g0, Bool.not_true, Bool.not_false]
  obtain ⟨hs, ho, hlt⟩ := hp
  have hsz := ho.size hs
  refine XCalls.reb (sopen s r pr 0 0 [] an tg 3 6 ⟨by omega, ho.dn, ho.bs, ho.cd, ho.dp⟩) [0, 1, 2, 3] (by simp [mapHL, SV.mapH, muL]) (by simp only [ctxMap, at_cons_zero, at_cons_succ, and_true, List.length_cons, List.length_nil]; exact ⟨by omega, soLe_blk (by simp [mapHL, SV.mapH, muL, flt, atR, tellR, textR]), by omega, soLe_same fun _ => rfl, by omega, soLe_same fun _ => rfl, by omega, soLe_same fun _ => rfl⟩) (by decide) (by simp [newRw, SO.ro]) (by decide) (by simp [cleanC, upds, cleanO, noHL, noH, SO.ro, litEl]) ?_
  simp only [↓XC, XV, XT, forall_const, implies_true, reduceIte, Nat.reduceAdd, Nat.reduceLT, Nat.reduceEqDiff, Nat.reduceBEq, Nat.reduceLeDiff, reduceCtorEq, Nat.reduceSub, Nat.reduceMul, Int.reduceToNat, Int.reduceLT, Int.reduceLE, TES, XRE, XR, XRH, XRN, flt, atR, tellR, textR, ↓xguard_on, ↓xguard_no, ↓xguard_g0, Bool.not_true, Bool.not_false, XM]
  obtain ⟨ro, hro⟩ : ∃ ro, ro = opR r 3 6 (⟨false, an, tg, 0⟩ : Pp) r.pos := ⟨_, rfl⟩
  have hro' : ro = opR r 3 6 (⟨ha, an, tg, pe⟩ : Pp) r.pos := hro
  have hrp : ro.pos = r.pos := by rw [hro]; unfold opR; split <;> rfl
  rw [← hro, hrp]
  obtain ⟨R, hR⟩ : ∃ R, R = coR s it 93 3 r (⟨ha, an, tg, pe⟩ : Pp) := ⟨_, rfl⟩
  rw [← hR]
  have hC : R = if ro.cd ≠ 0 then ro else clL s it 93 r.ev.length (atR ro (r.pos + 1)) := by rw [hR, hro']; rfl
  refine Chk.mk (by simp only [inR]; omega) fun _ => ?_
  have hx0 : ∃ x0 : Rd, (x0.ev = ro.ev ∧ x0.cd = ro.cd ∧ x0.pl = ro.pl ∧ x0.dp = ro.dp ∧ x0.dn = ro.dn ∧ x0.bs = ro.bs ∧ x0.hd = ro.hd) ∧ ((x0.cd = 0 ∧ ((r.pos : Int) + 1) = (x0.pos : Nat) ∧ Ok s x0 ∧ x0.dp = r.dp + 1 ∧ r.dp < 40 ∧ (r.ev ++ [evO 3 6 an tg]) <+: x0.ev ∧ x0.bs = r.bs ∧ clL s it 93 r.ev.length x0 = R) ∨ (x0.cd ≠ 0 ∧ R = x0)) := by
    by_cases hz : ro.cd = 0
    · rw [hro] at hz
      obtain ⟨e, hd⟩ := opR_ok hz
      rw [if_neg (by rw [hro]; simpa using hz), hro] at hC
      have h9 := ho.sz
      have h8 := ho.bs
      refine ⟨atR ro (r.pos + 1), ⟨rfl, rfl, rfl, rfl, rfl, rfl, rfl⟩, .inl ?_⟩
      rw [hro]
      refine ⟨hz, by simp [atR], ?_, by rw [e]; rfl, hd, by rw [e]; exact List.prefix_refl _, by rw [e]; rfl, hC.symm⟩
      rw [e]
      exact ⟨ho.cd, hlt, by simp [atR, tellR, ho.dn], by simp only [atR, tellR, List.length_append]; omega, by simp only [atR]; omega, by simp only [atR, tellR, List.length_append, List.length_singleton]; omega, ho.hd, ho.pf⟩
    · exact ⟨ro, ⟨rfl, rfl, rfl, rfl, rfl, rfl, rfl⟩, .inr ⟨hz, by rw [hC, if_pos hz]⟩⟩
  obtain ⟨x0, ⟨e1, e2, e3, e4, e5, e6, e7⟩, hI0⟩ := hx0
  rw [← e1, ← e2, ← e3, ← e4, ← e5, ← e6, ← e7]
  refine VLoops.of (ι := {x : Rd × Int × Int // (x.1.cd = 0 ∧ x.2.1 = (x.1.pos : Nat) ∧ Ok s x.1 ∧ x.1.dp = r.dp + 1 ∧ r.dp < 40 ∧ (r.ev ++ [evO 3 6 an tg]) <+: x.1.ev ∧ x.1.bs = r.bs ∧ clL s it 93 r.ev.length x.1 = R) ∨ (x.1.cd ≠ 0 ∧ R = x.1)}) (fun x => ⟨[(0, .ptr 0 0 0), (4, .i .i64 (if 40 ≤ r.dp then (-2 : Int) else if an = [] then -1 else ((nmS r.ev r.dn r.bs).length : Nat)))], [some (.blk false [.s s, .i .i64 x.1.2.1, .slc 1 0 (x.1.1).ev.length, .i .i64 (x.1.1).cd, .i .i64 ((x.1.1).pl : Nat), .i .i64 ((x.1.1).dp : Nat), .slc 2 0 (nmS (x.1.1).ev (x.1.1).dn (x.1.1).bs).length, .slc 3 0 (x.1.1).hd.length, .i .i64 x.1.2.2]), some (.row false 8 (x.1.1).ev.length (rowE evc evz (x.1.1).ev)), some (.row false 2 (nmS (x.1.1).ev (x.1.1).dn (x.1.1).bs).length (rowE nac ([], false) (nmS (x.1.1).ev (x.1.1).dn (x.1.1).bs))), some (.row false 2 (x.1.1).hd.length (rowE hdc hdz (x.1.1).hd))]⟩) (fun x => if x.1.1.cd = 0 then s.length + 1 - x.1.1.pos else 0) ⟨(x0, (r.pos : Int) + 1, pr), hI0⟩ (Ent.ren1 [0, 1, 2, 3] (by decide) (by simp only [entCtx, at_cons_zero, at_cons_succ, and_true, true_and]; exact ⟨soLe_blk (by simp [mapHL, SV.mapH, muL, flt, atR, tellR, textR]), soLe_same fun _ => rfl, soLe_same fun _ => rfl, soLe_same fun _ => rfl⟩) (by simp [entEnv, Vg.look, SV.mapH, muL, XRE, XR, XRH, XRN, flt, atR, tellR, textR])) ?_
  rintro ⟨⟨x, a1, pr1⟩, hI⟩
  simp only [↓XC, XV, XT, forall_const, implies_true, reduceIte, Nat.reduceAdd, Nat.reduceLT, Nat.reduceEqDiff, Nat.reduceBEq, Nat.reduceLeDiff, reduceCtorEq, Nat.reduceSub, Nat.reduceMul, Int.reduceToNat, Int.reduceLT, Int.reduceLE, TES, XRE, XR, XRH, XRN, flt, atR, tellR, textR]
  by_cases hcx : x.cd = 0
  · have hI2 : x.cd = 0 ∧ a1 = (x.pos : Nat) ∧ Ok s x ∧ x.dp = r.dp + 1 ∧ r.dp < 40 ∧ (r.ev ++ [evO 3 6 an tg]) <+: x.ev ∧ x.bs = r.bs ∧ clL s it 93 r.ev.length x = R := by
      rcases hI with h | h
      · exact h
      · exact absurd hcx h.1
    obtain ⟨_, hxa, hx, hxd, hd40, hpre, hxb, hxc⟩ := hI2
    subst hxa
    obtain ⟨hit, HN⟩ := HI hd40
    have hsz := hx.size hs
    simp only [decide_eq_true hcx]
    simp only [↓XC, XV, XT, forall_const, implies_true, reduceIte, Nat.reduceAdd, Nat.reduceLT, Nat.reduceEqDiff, Nat.reduceBEq, Nat.reduceLeDiff, reduceCtorEq, Nat.reduceSub, Nat.reduceMul, Int.reduceToNat, Int.reduceLT, Int.reduceLE, TES, XRE, XR, XRH, XRN, flt, atR, tellR, textR, ↓xguard_on, ↓xguard_no, ↓xguard_g0, Bool.not_true, Bool.not_false]
    refine XCalls.mut (sgap s x pr1 ⟨hs, hcx, hx.pos⟩) rfl [0, 1, 2, 3] (by simp [mapHL, SV.mapH, muL]) (by simp only [ctxMap, at_cons_zero, at_cons_succ, and_true, List.length_cons, List.length_nil]; exact ⟨by omega, soLe_blk (by simp [mapHL, SV.mapH, muL, flt, atR, tellR, textR]), by omega, soLe_same fun _ => rfl, by omega, soLe_same fun _ => rfl, by omega, soLe_same fun _ => rfl⟩) (by decide) ?_
    simp only [↓XC, XV, XT, forall_const, implies_true, reduceIte, Nat.reduceAdd, Nat.reduceLT, Nat.reduceEqDiff, Nat.reduceBEq, Nat.reduceLeDiff, reduceCtorEq, Nat.reduceSub, Nat.reduceMul, Int.reduceToNat, Int.reduceLT, Int.reduceLE, TES, XRE, XR, XRH, XRN, flt, atR, tellR, textR, ↓xguard_on, ↓xguard_no, ↓xguard_g0, Bool.not_true, Bool.not_false, XM]
    obtain ⟨g, hg⟩ : ∃ g, g = gapR s x := ⟨_, rfl⟩
    rw [← hg]
    refine ⟨fun hgz => ?_, fun hgz => ?_⟩
    · have hgz' : (gapR s x).cd = 0 := by rw [← hg]; exact hgz
      have hgo : Ok s g := by rw [hg]; exact hx.gap hgz'
      have hgsz := hgo.size hs
      obtain ⟨e9, hp9⟩ := gapR_ok hgz'
      have hgp : g.pos < s.length := by rw [hg, e9]; exact hp9
      have hgd : g.dp = r.dp + 1 := by rw [hg, e9]; exact hxd
      have hge : g.ev = x.ev := by rw [hg, e9]; rfl
      have hgb : g.bs = r.bs := by rw [hg, e9]; exact hxb
      obtain ⟨tl, htl⟩ := hpre
      refine XCalls.mut (sbyte s g pr1 hs) rfl [0, 1, 2, 3] (by simp [mapHL, SV.mapH, muL]) (by simp only [ctxMap, at_cons_zero, at_cons_succ, and_true, List.length_cons, List.length_nil]; exact ⟨by omega, soLe_blk (by simp [mapHL, SV.mapH, muL, flt, atR, tellR, textR]), by omega, soLe_same fun _ => rfl, by omega, soLe_same fun _ => rfl, by omega, soLe_same fun _ => rfl⟩) (by decide) ?_
      simp only [↓XC, XV, XT, forall_const, implies_true, reduceIte, Nat.reduceAdd, Nat.reduceLT, Nat.reduceEqDiff, Nat.reduceBEq, Nat.reduceLeDiff, reduceCtorEq, Nat.reduceSub, Nat.reduceMul, Int.reduceToNat, Int.reduceLT, Int.reduceLE, TES, XRE, XR, XRH, XRN, flt, atR, tellR, textR, ↓xguard_on, ↓xguard_no, ↓xguard_g0, Bool.not_true, Bool.not_false, XM]
      simp only [by0 (show (0 : Int) < 93 by decide)]
      refine ⟨fun h2 => Chk.mk (by simp only [inR]; omega) fun _ => ?_, fun h2 => ?_⟩
      · have hN : (if 40 ≤ r.dp then (-2 : Int) else if an = [] then -1 else ((nmS r.ev r.dn r.bs).length : Nat)) = (if ((atR g (g.pos + 1)).ev.getD r.ev.length evz).anchor = [] then (-1 : Int) else ((anI (List.take r.ev.length (atR g (g.pos + 1)).ev) (atR g (g.pos + 1)).bs).length : Nat)) := by
          rw [if_neg (by omega), show (atR g (g.pos + 1)).ev = x.ev from hge, show (atR g (g.pos + 1)).bs = r.bs from hgb, ← htl]
          simp [evO, nmS, List.getElem?_append_right]
        rw [hN]
        refine XCalls.reb (sclose s (atR g (g.pos + 1)) pr1 r.ev.length ⟨by show g.ev.length ≤ _; omega, hgo.dn, hgo.bs, by show r.ev.length < g.ev.length; rw [hge, ← htl]; simp, by show g.bs ≤ _; rw [hgb]; exact ho.bs, by show 0 < g.dp; omega, hgo.dp⟩) [0, 1, 2, 3] (by simp [mapHL, SV.mapH, muL]) (by simp only [ctxMap, at_cons_zero, at_cons_succ, and_true, List.length_cons, List.length_nil]; exact ⟨by omega, soLe_blk (by simp [mapHL, SV.mapH, muL, flt, atR, tellR, textR]), by omega, soLe_same fun _ => rfl, by omega, soLe_same fun _ => rfl, by omega, soLe_same fun _ => rfl⟩) (by decide) (by simp [newRw, SO.ro]) (by decide) (by simp [cleanC, upds, cleanO, noHL, noH, SO.ro, litEl]) ?_
        simp only [↓XC, XV, XT, forall_const, implies_true, reduceIte, Nat.reduceAdd, Nat.reduceLT, Nat.reduceEqDiff, Nat.reduceBEq, Nat.reduceLeDiff, reduceCtorEq, Nat.reduceSub, Nat.reduceMul, Int.reduceToNat, Int.reduceLT, Int.reduceLE, TES, XRE, XR, XRH, XRN, flt, atR, tellR, textR, ↓xguard_on, ↓xguard_no, ↓xguard_g0, Bool.not_true, Bool.not_false, XM]
        have eR : R = shR (atR g (g.pos + 1)) r.ev.length := by rw [← hxc, clL_end hgz' (by rw [← hg]; exact h2), ← hg]
        rw [eR]
        refine ⟨.tup [], [some (.blk false [.s s, .i .i64 (((shR (atR g (g.pos + 1)) r.ev.length).pos : Nat) : Int), .slc 1 0 (shR (atR g (g.pos + 1)) r.ev.length).ev.length, .i .i64 (shR (atR g (g.pos + 1)) r.ev.length).cd, .i .i64 ((shR (atR g (g.pos + 1)) r.ev.length).pl : Nat), .i .i64 ((shR (atR g (g.pos + 1)) r.ev.length).dp : Nat), .slc 2 0 (nmS (shR (atR g (g.pos + 1)) r.ev.length).ev (shR (atR g (g.pos + 1)) r.ev.length).dn (shR (atR g (g.pos + 1)) r.ev.length).bs).length, .slc 3 0 (shR (atR g (g.pos + 1)) r.ev.length).hd.length, .i .i64 pr1]), some (.row false 8 (shR (atR g (g.pos + 1)) r.ev.length).ev.length (rowE evc evz (shR (atR g (g.pos + 1)) r.ev.length).ev)), some (.row false 2 (nmS (shR (atR g (g.pos + 1)) r.ev.length).ev (shR (atR g (g.pos + 1)) r.ev.length).dn (shR (atR g (g.pos + 1)) r.ev.length).bs).length (rowE nac ([], false) (nmS (shR (atR g (g.pos + 1)) r.ev.length).ev (shR (atR g (g.pos + 1)) r.ev.length).dn (shR (atR g (g.pos + 1)) r.ev.length).bs))), some (.row false 2 (shR (atR g (g.pos + 1)) r.ev.length).hd.length (rowE hdc hdz (shR (atR g (g.pos + 1)) r.ev.length).hd))], ⟨(((shR (atR g (g.pos + 1)) r.ev.length).pos : Nat) : Int), pr1, fun _ => rfl, rfl, rfl⟩, ?_⟩
        exact ⟨[0, 1, 2, 3], by decide, by simp only [entCtx, at_cons_zero, at_cons_succ, and_true, true_and]; exact ⟨soLe_blk (by simp [mapHL, SV.mapH, muL, flt, atR, tellR, textR]), soLe_same fun _ => rfl, soLe_same fun _ => rfl, soLe_same fun _ => rfl⟩, by simp only [↓XC, XV, XT, forall_const, implies_true, reduceIte, Nat.reduceAdd, Nat.reduceLT, Nat.reduceEqDiff, Nat.reduceBEq, Nat.reduceLeDiff, reduceCtorEq, Nat.reduceSub, Nat.reduceMul, Int.reduceToNat, Int.reduceLT, Int.reduceLE]; try first | rfl | simp [muL, SV.mapH, mapHL], by simp [newRw, SO.ro], by simp⟩
      · obtain ⟨t, ht⟩ : ∃ t, t = it g := ⟨_, rfl⟩
        have hN := HN g pr1 hgo hgd
        rw [← ht] at hN
        unfold NodeS spC at hN
        refine XCalls.rebQ (hN) [0, 1, 2, 3] (by simp [mapHL, SV.mapH, muL]) (by simp only [ctxMap, at_cons_zero, at_cons_succ, and_true, List.length_cons, List.length_nil]; exact ⟨by omega, soLe_blk (by simp [mapHL, SV.mapH, muL, flt, atR, tellR, textR]), by omega, soLe_same fun _ => rfl, by omega, soLe_same fun _ => rfl, by omega, soLe_same fun _ => rfl⟩) (by decide) (by simp [newRw, SO.ro]) (by decide) (by simp [cleanC, upds, cleanO, noHL, noH, SO.ro, litEl]) ?_
        rintro z c ⟨a2, pr2, ha2, rfl, rfl⟩
        simp only [↓XC, XV, XT, forall_const, implies_true, reduceIte, Nat.reduceAdd, Nat.reduceLT, Nat.reduceEqDiff, Nat.reduceBEq, Nat.reduceLeDiff, reduceCtorEq, Nat.reduceSub, Nat.reduceMul, Int.reduceToNat, Int.reduceLT, Int.reduceLE, TES, XRE, XR, XRH, XRN, flt, atR, tellR, textR, ↓xguard_on, ↓xguard_no, ↓xguard_g0, Bool.not_true, Bool.not_false, XM]
        by_cases htz : t.cd = 0
        · have ha2' := ha2 htz
          subst ha2'
          have htz' : (it (gapR s x)).cd = 0 := by rw [← hg, ← ht]; exact htz
          have hst := hit g hgo hgd (by rw [← ht]; exact htz)
          rw [← ht] at hst
          have hto := hst.ok
          simp only [decide_eq_true htz]
          simp only [↓XC, XV, XT, forall_const, implies_true, reduceIte, Nat.reduceAdd, Nat.reduceLT, Nat.reduceEqDiff, Nat.reduceBEq, Nat.reduceLeDiff, reduceCtorEq, Nat.reduceSub, Nat.reduceMul, Int.reduceToNat, Int.reduceLT, Int.reduceLE, TES, XRE, XR, XRH, XRN, flt, atR, tellR, textR, ↓xguard_on, ↓xguard_no, ↓xguard_g0, Bool.not_true, Bool.not_false]
          refine XCalls.mut (sgap s t pr2 ⟨hs, htz, hto.pos⟩) rfl [0, 1, 2, 3] (by simp [mapHL, SV.mapH, muL]) (by simp only [ctxMap, at_cons_zero, at_cons_succ, and_true, List.length_cons, List.length_nil]; exact ⟨by omega, soLe_blk (by simp [mapHL, SV.mapH, muL, flt, atR, tellR, textR]), by omega, soLe_same fun _ => rfl, by omega, soLe_same fun _ => rfl, by omega, soLe_same fun _ => rfl⟩) (by decide) ?_
          simp only [↓XC, XV, XT, forall_const, implies_true, reduceIte, Nat.reduceAdd, Nat.reduceLT, Nat.reduceEqDiff, Nat.reduceBEq, Nat.reduceLeDiff, reduceCtorEq, Nat.reduceSub, Nat.reduceMul, Int.reduceToNat, Int.reduceLT, Int.reduceLE, TES, XRE, XR, XRH, XRN, flt, atR, tellR, textR, ↓xguard_on, ↓xguard_no, ↓xguard_g0, Bool.not_true, Bool.not_false, XM]
          obtain ⟨g2, hg2⟩ : ∃ g2, g2 = gapR s t := ⟨_, rfl⟩
          have hg2' : g2 = gapR s (it (gapR s x)) := by rw [hg2, ht, hg]
          rw [← hg2]
          refine ⟨fun h => ?_, fun h => ?_⟩
          · have h2z : ¬ g2.cd = 0 := by simpa using h
            have eR : R = g2 := by rw [← hxc, clL_g2 hgz' (by rw [← hg]; exact h2) htz' (by rw [← hg2']; exact h2z), ← hg2']
            rw [eR]
            refine ⟨.tup [], [some (.blk false [.s s, .i .i64 ((g2.pos : Nat) : Int), .slc 1 0 (g2).ev.length, .i .i64 (g2).cd, .i .i64 ((g2).pl : Nat), .i .i64 ((g2).dp : Nat), .slc 2 0 (nmS (g2).ev (g2).dn (g2).bs).length, .slc 3 0 (g2).hd.length, .i .i64 pr2]), some (.row false 8 (g2).ev.length (rowE evc evz (g2).ev)), some (.row false 2 (nmS (g2).ev (g2).dn (g2).bs).length (rowE nac ([], false) (nmS (g2).ev (g2).dn (g2).bs))), some (.row false 2 (g2).hd.length (rowE hdc hdz (g2).hd))], ⟨((g2.pos : Nat) : Int), pr2, fun _ => rfl, rfl, rfl⟩, ?_⟩
            exact ⟨[0, 1, 2, 3], by decide, by simp only [entCtx, at_cons_zero, at_cons_succ, and_true, true_and]; exact ⟨soLe_blk (by simp [mapHL, SV.mapH, muL, flt, atR, tellR, textR]), soLe_same fun _ => rfl, soLe_same fun _ => rfl, soLe_same fun _ => rfl⟩, by simp only [↓XC, XV, XT, forall_const, implies_true, reduceIte, Nat.reduceAdd, Nat.reduceLT, Nat.reduceEqDiff, Nat.reduceBEq, Nat.reduceLeDiff, reduceCtorEq, Nat.reduceSub, Nat.reduceMul, Int.reduceToNat, Int.reduceLT, Int.reduceLE]; try first | rfl | simp [muL, SV.mapH, mapHL], by simp [newRw, SO.ro], by simp⟩
          have h2z : g2.cd = 0 := by simpa using h
          have h2z' : (gapR s (it (gapR s x))).cd = 0 := by rw [← hg2']; exact h2z
          have hg2o : Ok s g2 := by rw [hg2]; exact hto.gap (by rw [← hg2]; exact h2z)
          have hg2p : g2.pos < s.length := by
            obtain ⟨e9, h9⟩ := gapR_ok (s := s) (r := t) (by rw [← hg2]; exact h2z)
            rw [hg2, e9]; exact h9
          have hcm : (cmR s g2 93).cd = 0 → ∀ t2, t2 = cmR s g2 93 → (t2.cd = 0 ∧ Ok s t2 ∧ t2.dp = r.dp + 1 ∧ (r.ev ++ [evO 3 6 an tg]) <+: t2.ev ∧ t2.bs = r.bs ∧ clL s it 93 r.ev.length t2 = R) ∧ x.pos < t2.pos ∧ t2.pos ≤ s.length := fun hz t2 ht2 => by
            have ht2' : t2 = cmR s (gapR s (it (gapR s x))) 93 := by rw [ht2, hg2']
            have h3z : t2.cd = 0 := by rw [ht2]; exact hz
            have hrd := cl_round hit hx hxd hgz' htz' h2z' (by rw [← ht2']; exact h3z)
            rw [← ht2'] at hrd
            have hlt3 := hrd.lt
            have hpo3 := hrd.ok.pos
            refine ⟨⟨h3z, hrd.ok, hrd.dp.trans hxd, ?_, hrd.bs.trans hxb, ?_⟩, hlt3, hpo3⟩
            · exact List.IsPrefix.trans ⟨tl, htl⟩ hrd.pre
            · rw [← hxc, clL_go hgz' (by rw [← hg]; exact h2) htz' h2z' ⟨by rw [← ht2']; exact h3z, by rw [← ht2']; exact hlt3, by omega⟩, ← ht2']
          refine XCalls.mut (sbyte s g2 pr2 hs) rfl [0, 1, 2, 3] (by simp [mapHL, SV.mapH, muL]) (by simp only [ctxMap, at_cons_zero, at_cons_succ, and_true, List.length_cons, List.length_nil]; exact ⟨by omega, soLe_blk (by simp [mapHL, SV.mapH, muL, flt, atR, tellR, textR]), by omega, soLe_same fun _ => rfl, by omega, soLe_same fun _ => rfl, by omega, soLe_same fun _ => rfl⟩) (by decide) ?_
          simp only [↓XC, XV, XT, forall_const, implies_true, reduceIte, Nat.reduceAdd, Nat.reduceLT, Nat.reduceEqDiff, Nat.reduceBEq, Nat.reduceLeDiff, reduceCtorEq, Nat.reduceSub, Nat.reduceMul, Int.reduceToNat, Int.reduceLT, Int.reduceLE, TES, XRE, XR, XRH, XRN, flt, atR, tellR, textR, ↓xguard_on, ↓xguard_no, ↓xguard_g0, Bool.not_true, Bool.not_false, XM]
          simp only [by0 (show (0 : Int) < 44 by decide)]
          refine ⟨fun h44 => Chk.mk (by simp only [inR]; omega) fun _ => ?_, fun h44 => ?_⟩
          · have e : cmR s g2 93 = atR g2 (g2.pos + 1) := by unfold cmR; rw [if_pos h44]
            obtain ⟨⟨k1, k2, k3, k4, k5, k6⟩, k7, k8⟩ := hcm (by rw [e]; exact h2z) _ e.symm
            refine ⟨⟨(atR g2 (g2.pos + 1), ((g2.pos + 1 : Nat) : Int), pr2), .inl ⟨k1, rfl, k2, k3, hd40, k4, k5, k6⟩⟩, ?_, ?_⟩
            · rw [if_pos hcx]
              show (if (atR g2 (g2.pos + 1)).cd = 0 then s.length + 1 - (g2.pos + 1) else 0) < _
              rw [if_pos k1]
              have k7' : x.pos < g2.pos + 1 := k7
              omega
            · exact (Ent.ren1 [0, 1, 2, 3] (by decide) (by simp only [entCtx, at_cons_zero, at_cons_succ, and_true, true_and]; exact ⟨soLe_blk (by simp [mapHL, SV.mapH, muL, flt, atR, tellR, textR]), soLe_same fun _ => rfl, soLe_same fun _ => rfl, soLe_same fun _ => rfl⟩) (by simp [entEnv, Vg.look, SV.mapH, muL, XRE, XR, XRH, XRN, flt, atR, tellR, textR]))
          refine XCalls.mut (sbyte s g2 pr2 hs) rfl [0, 1, 2, 3] (by simp [mapHL, SV.mapH, muL]) (by simp only [ctxMap, at_cons_zero, at_cons_succ, and_true, List.length_cons, List.length_nil]; exact ⟨by omega, soLe_blk (by simp [mapHL, SV.mapH, muL, flt, atR, tellR, textR]), by omega, soLe_same fun _ => rfl, by omega, soLe_same fun _ => rfl, by omega, soLe_same fun _ => rfl⟩) (by decide) ?_
          simp only [↓XC, XV, XT, forall_const, implies_true, reduceIte, Nat.reduceAdd, Nat.reduceLT, Nat.reduceEqDiff, Nat.reduceBEq, Nat.reduceLeDiff, reduceCtorEq, Nat.reduceSub, Nat.reduceMul, Int.reduceToNat, Int.reduceLT, Int.reduceLE, TES, XRE, XR, XRH, XRN, flt, atR, tellR, textR, ↓xguard_on, ↓xguard_no, ↓xguard_g0, Bool.not_true, Bool.not_false, XM]
          simp only [by0 (show (0 : Int) < 93 by decide)]
          refine ⟨fun h => ?_, fun h => ?_⟩
          · have hc : ¬ byt s g2.pos = 93 := by simpa using h
            have e : cmR s g2 93 = flt g2 11 g2.pos := by unfold cmR; rw [if_neg h44, if_neg hc]
            have hz : ¬ (cmR s g2 93).cd = 0 := by rw [e]; exact (by decide : ¬ ((11 : Int) = 0))
            refine XCalls.mut (sfail s g2 pr2 11 g2.pos h2z) rfl [0, 1, 2, 3] (by simp [mapHL, SV.mapH, muL]) (by simp only [ctxMap, at_cons_zero, at_cons_succ, and_true, List.length_cons, List.length_nil]; exact ⟨by omega, soLe_blk (by simp [mapHL, SV.mapH, muL, flt, atR, tellR, textR]), by omega, soLe_same fun _ => rfl, by omega, soLe_same fun _ => rfl, by omega, soLe_same fun _ => rfl⟩) (by decide) ?_
            simp only [↓XC, XV, XT, forall_const, implies_true, reduceIte, Nat.reduceAdd, Nat.reduceLT, Nat.reduceEqDiff, Nat.reduceBEq, Nat.reduceLeDiff, reduceCtorEq, Nat.reduceSub, Nat.reduceMul, Int.reduceToNat, Int.reduceLT, Int.reduceLE, TES, XRE, XR, XRH, XRN, flt, atR, tellR, textR, ↓xguard_on, ↓xguard_no, ↓xguard_g0, Bool.not_true, Bool.not_false, XM]
            have hfz : ¬ (flt g2 11 g2.pos).cd = 0 := (by decide : ¬ ((11 : Int) = 0))
            refine ⟨⟨(flt g2 11 g2.pos, ((g2.pos : Nat) : Int), pr2), .inr ⟨hfz, ?_⟩⟩, ?_, ?_⟩
            · rw [← hxc, clL_cm hgz' (by rw [← hg]; exact h2) htz' h2z' (by rw [← hg2']; exact hz), ← hg2', e]
            · rw [if_pos hcx]
              show (if (flt g2 11 g2.pos).cd = 0 then _ else 0) < _
              rw [if_neg hfz]
              have := hx.pos
              omega
            · exact (Ent.ren1 [0, 1, 2, 3] (by decide) (by simp only [entCtx, at_cons_zero, at_cons_succ, and_true, true_and]; exact ⟨soLe_blk (by simp [mapHL, SV.mapH, muL, flt, atR, tellR, textR]), soLe_same fun _ => rfl, soLe_same fun _ => rfl, soLe_same fun _ => rfl⟩) (by simp [entEnv, Vg.look, SV.mapH, muL, XRE, XR, XRH, XRN, flt, atR, tellR, textR]))
          · have hc : byt s g2.pos = 93 := by simpa using h
            have e : cmR s g2 93 = g2 := by unfold cmR; rw [if_neg h44, if_pos hc]
            obtain ⟨⟨k1, k2, k3, k4, k5, k6⟩, k7, k8⟩ := hcm (by rw [e]; exact h2z) _ e.symm
            refine ⟨⟨(g2, ((g2.pos : Nat) : Int), pr2), .inl ⟨k1, rfl, k2, k3, hd40, k4, k5, k6⟩⟩, ?_, ?_⟩
            · rw [if_pos hcx]
              show (if g2.cd = 0 then s.length + 1 - g2.pos else 0) < _
              rw [if_pos k1]
              omega
            · exact (Ent.ren1 [0, 1, 2, 3] (by decide) (by simp only [entCtx, at_cons_zero, at_cons_succ, and_true, true_and]; exact ⟨soLe_blk (by simp [mapHL, SV.mapH, muL, flt, atR, tellR, textR]), soLe_same fun _ => rfl, soLe_same fun _ => rfl, soLe_same fun _ => rfl⟩) (by simp [entEnv, Vg.look, SV.mapH, muL, XRE, XR, XRH, XRN, flt, atR, tellR, textR]))
        · simp only [decide_eq_false htz]
          simp only [↓XC, XV, XT, forall_const, implies_true, reduceIte, Nat.reduceAdd, Nat.reduceLT, Nat.reduceEqDiff, Nat.reduceBEq, Nat.reduceLeDiff, reduceCtorEq, Nat.reduceSub, Nat.reduceMul, Int.reduceToNat, Int.reduceLT, Int.reduceLE, TES, XRE, XR, XRH, XRN, flt, atR, tellR, textR, ↓xguard_on, ↓xguard_no, ↓xguard_g0, Bool.not_true, Bool.not_false]
          have eR : R = t := by rw [← hxc, clL_it hgz' (by rw [← hg]; exact h2) (by rw [← hg, ← ht]; exact htz), ← hg, ← ht]
          rw [eR]
          refine ⟨.tup [], [some (.blk false [.s s, .i .i64 a2, .slc 1 0 (t).ev.length, .i .i64 (t).cd, .i .i64 ((t).pl : Nat), .i .i64 ((t).dp : Nat), .slc 2 0 (nmS (t).ev (t).dn (t).bs).length, .slc 3 0 (t).hd.length, .i .i64 pr2]), some (.row false 8 (t).ev.length (rowE evc evz (t).ev)), some (.row false 2 (nmS (t).ev (t).dn (t).bs).length (rowE nac ([], false) (nmS (t).ev (t).dn (t).bs))), some (.row false 2 (t).hd.length (rowE hdc hdz (t).hd))], ⟨a2, pr2, fun h => absurd h htz, rfl, rfl⟩, ?_⟩
          exact ⟨[0, 1, 2, 3], by decide, by simp only [entCtx, at_cons_zero, at_cons_succ, and_true, true_and]; exact ⟨soLe_blk (by simp [mapHL, SV.mapH, muL, flt, atR, tellR, textR]), soLe_same fun _ => rfl, soLe_same fun _ => rfl, soLe_same fun _ => rfl⟩, by simp only [↓XC, XV, XT, forall_const, implies_true, reduceIte, Nat.reduceAdd, Nat.reduceLT, Nat.reduceEqDiff, Nat.reduceBEq, Nat.reduceLeDiff, reduceCtorEq, Nat.reduceSub, Nat.reduceMul, Int.reduceToNat, Int.reduceLT, Int.reduceLE]; try first | rfl | simp [muL, SV.mapH, mapHL], by simp [newRw, SO.ro], by simp⟩
    · have eR : R = g := by rw [← hxc, clL_gap (by rw [← hg]; exact hgz), ← hg]
      rw [eR]
      refine ⟨.tup [], [some (.blk false [.s s, .i .i64 ((g.pos : Nat) : Int), .slc 1 0 (g).ev.length, .i .i64 (g).cd, .i .i64 ((g).pl : Nat), .i .i64 ((g).dp : Nat), .slc 2 0 (nmS (g).ev (g).dn (g).bs).length, .slc 3 0 (g).hd.length, .i .i64 pr1]), some (.row false 8 (g).ev.length (rowE evc evz (g).ev)), some (.row false 2 (nmS (g).ev (g).dn (g).bs).length (rowE nac ([], false) (nmS (g).ev (g).dn (g).bs))), some (.row false 2 (g).hd.length (rowE hdc hdz (g).hd))], ⟨((g.pos : Nat) : Int), pr1, fun _ => rfl, rfl, rfl⟩, ?_⟩
      exact ⟨[0, 1, 2, 3], by decide, by simp only [entCtx, at_cons_zero, at_cons_succ, and_true, true_and]; exact ⟨soLe_blk (by simp [mapHL, SV.mapH, muL, flt, atR, tellR, textR]), soLe_same fun _ => rfl, soLe_same fun _ => rfl, soLe_same fun _ => rfl⟩, by simp only [↓XC, XV, XT, forall_const, implies_true, reduceIte, Nat.reduceAdd, Nat.reduceLT, Nat.reduceEqDiff, Nat.reduceBEq, Nat.reduceLeDiff, reduceCtorEq, Nat.reduceSub, Nat.reduceMul, Int.reduceToNat, Int.reduceLT, Int.reduceLE]; try first | rfl | simp [muL, SV.mapH, mapHL], by simp [newRw, SO.ro], by simp⟩
  · simp only [decide_eq_false hcx]
    simp only [↓XC, XV, XT, forall_const, implies_true, reduceIte, Nat.reduceAdd, Nat.reduceLT, Nat.reduceEqDiff, Nat.reduceBEq, Nat.reduceLeDiff, reduceCtorEq, Nat.reduceSub, Nat.reduceMul, Int.reduceToNat, Int.reduceLT, Int.reduceLE, TES, XRE, XR, XRH, XRN, flt, atR, tellR, textR, ↓xguard_on, ↓xguard_no, ↓xguard_g0, Bool.not_true, Bool.not_false]
    have hR : R = x := by
      rcases hI with h | h
      · exact absurd h.1 hcx
      · exact h.2
    have eR : R = x := hR
    rw [eR]
    refine ⟨.tup [], [some (.blk false [.s s, .i .i64 a1, .slc 1 0 (x).ev.length, .i .i64 (x).cd, .i .i64 ((x).pl : Nat), .i .i64 ((x).dp : Nat), .slc 2 0 (nmS (x).ev (x).dn (x).bs).length, .slc 3 0 (x).hd.length, .i .i64 pr1]), some (.row false 8 (x).ev.length (rowE evc evz (x).ev)), some (.row false 2 (nmS (x).ev (x).dn (x).bs).length (rowE nac ([], false) (nmS (x).ev (x).dn (x).bs))), some (.row false 2 (x).hd.length (rowE hdc hdz (x).hd))], ⟨a1, pr1, fun h => absurd h hcx, rfl, rfl⟩, ?_⟩
    exact ⟨[0, 1, 2, 3], by decide, by simp only [entCtx, at_cons_zero, at_cons_succ, and_true, true_and]; exact ⟨soLe_blk (by simp [mapHL, SV.mapH, muL, flt, atR, tellR, textR]), soLe_same fun _ => rfl, soLe_same fun _ => rfl, soLe_same fun _ => rfl⟩, by simp only [↓XC, XV, XT, forall_const, implies_true, reduceIte, Nat.reduceAdd, Nat.reduceLT, Nat.reduceEqDiff, Nat.reduceBEq, Nat.reduceLeDiff, reduceCtorEq, Nat.reduceSub, Nat.reduceMul, Int.reduceToNat, Int.reduceLT, Int.reduceLE]; try first | rfl | simp [muL, SV.mapH, mapHL], by simp [newRw, SO.ro], by simp⟩
theorem smap (s : Bs) (r : Rd) (pr : Int) (it : Rd → Rd) (ha : Bool) (an tg : Bs) (pe : Nat) (HI : r.dp < 40 → ItOk s (r.dp + 1) it ∧ ∀ (r1 : Rd) (pr1 : Int), Ok s r1 → r1.dp = r.dp + 1 → NodeS Tryz.prog 45 s [] pr1 r1 (it r1)) (hp : s.length ≤ 1048576 ∧ Ok s r ∧ r.pos < s.length) : FnK Tryz.prog 24 1 [.ptr 0 0 0, .agg [.i .i64 0, .i .i64 0, .b false, .s [], .s an, .s tg, .i .i64 0, .i .i64 0]] [some (.blk false [.s s, .i .i64 ((r).pos : Nat), .slc 1 0 (r).ev.length, .i .i64 (r).cd, .i .i64 ((r).pl : Nat), .i .i64 ((r).dp : Nat), .slc 2 0 (nmS (r).ev (r).dn (r).bs).length, .slc 3 0 (r).hd.length, .i .i64 pr]), some (.row false 8 (r).ev.length (rowE evc evz (r).ev)), some (.row false 2 (nmS (r).ev (r).dn (r).bs).length (rowE nac ([], false) (nmS (r).ev (r).dn (r).bs))), some (.row false 2 (r).hd.length (rowE hdc hdz (r).hd))] (fun z c => ∃ (a pr' : Int), (((coR s it 125 4 r (⟨ha, an, tg, pe⟩ : Pp))).cd = 0 → a = ((((coR s it 125 4 r (⟨ha, an, tg, pe⟩ : Pp))).pos : Nat) : Int)) ∧ z = .tup [] ∧ c = [some (.blk false [.s s, .i .i64 a, .slc 1 0 ((coR s it 125 4 r (⟨ha, an, tg, pe⟩ : Pp))).ev.length, .i .i64 ((coR s it 125 4 r (⟨ha, an, tg, pe⟩ : Pp))).cd, .i .i64 (((coR s it 125 4 r (⟨ha, an, tg, pe⟩ : Pp))).pl : Nat), .i .i64 (((coR s it 125 4 r (⟨ha, an, tg, pe⟩ : Pp))).dp : Nat), .slc 2 0 (nmS ((coR s it 125 4 r (⟨ha, an, tg, pe⟩ : Pp))).ev ((coR s it 125 4 r (⟨ha, an, tg, pe⟩ : Pp))).dn ((coR s it 125 4 r (⟨ha, an, tg, pe⟩ : Pp))).bs).length, .slc 3 0 ((coR s it 125 4 r (⟨ha, an, tg, pe⟩ : Pp))).hd.length, .i .i64 pr']), some (.row false 8 ((coR s it 125 4 r (⟨ha, an, tg, pe⟩ : Pp))).ev.length (rowE evc evz ((coR s it 125 4 r (⟨ha, an, tg, pe⟩ : Pp))).ev)), some (.row false 2 (nmS ((coR s it 125 4 r (⟨ha, an, tg, pe⟩ : Pp))).ev ((coR s it 125 4 r (⟨ha, an, tg, pe⟩ : Pp))).dn ((coR s it 125 4 r (⟨ha, an, tg, pe⟩ : Pp))).bs).length (rowE nac ([], false) (nmS ((coR s it 125 4 r (⟨ha, an, tg, pe⟩ : Pp))).ev ((coR s it 125 4 r (⟨ha, an, tg, pe⟩ : Pp))).dn ((coR s it 125 4 r (⟨ha, an, tg, pe⟩ : Pp))).bs))), some (.row false 2 ((coR s it 125 4 r (⟨ha, an, tg, pe⟩ : Pp))).hd.length (rowE hdc hdz ((coR s it 125 4 r (⟨ha, an, tg, pe⟩ : Pp))).hd))]) := by
  refine FnK.ofQ (cf := mkCf Tryz.prog te [] 68 1 false (fun i => i == 3 || i == 8) (kp [(0, [0, 3]), (1, [0, 4]), (2, [0, 4]), (3, [0, 4, 23]), (4, [0, 4, 26]), (5, [0, 4]), (6, []), (7, [0, 4]), (8, [0, 4, 48]), (9, [0, 4, 51]), (10, [0, 4]), (11, [0, 4, 61]), (12, [0, 4])]) [] []) (mkCf_ok te_ok (l := []) (trivial) mixed_ok) Tryz.func24 rfl rfl rfl (by simp [mkCf]) (by simp [mkCf]) (rs := []) rfl 100000 ?_
  simp only [↓XC, XV, XT, forall_const, implies_true, reduceIte, Nat.reduceAdd, Nat.reduceLT, Nat.reduceEqDiff, Nat.reduceBEq, Nat.reduceLeDiff, reduceCtorEq, Nat.reduceSub, Nat.reduceMul, Int.reduceToNat, Int.reduceLT, Int.reduceLE, TES, XRE, XR, XRH, XRN, flt, atR, tellR, textR, ↓xguard_on, ↓xguard_no, ↓xguard_g0, Bool.not_true, Bool.not_false]
  obtain ⟨hs, ho, hlt⟩ := hp
  have hsz := ho.size hs
  refine XCalls.reb (sopen s r pr 0 0 [] an tg 4 6 ⟨by omega, ho.dn, ho.bs, ho.cd, ho.dp⟩) [0, 1, 2, 3] (by simp [mapHL, SV.mapH, muL]) (by simp only [ctxMap, at_cons_zero, at_cons_succ, and_true, List.length_cons, List.length_nil]; exact ⟨by omega, soLe_blk (by simp [mapHL, SV.mapH, muL, flt, atR, tellR, textR]), by omega, soLe_same fun _ => rfl, by omega, soLe_same fun _ => rfl, by omega, soLe_same fun _ => rfl⟩) (by decide) (by simp [newRw, SO.ro]) (by decide) (by simp [cleanC, upds, cleanO, noHL, noH, SO.ro, litEl]) ?_
  simp only [↓XC, XV, XT, forall_const, implies_true, reduceIte, Nat.reduceAdd, Nat.reduceLT, Nat.reduceEqDiff, Nat.reduceBEq, Nat.reduceLeDiff, reduceCtorEq, Nat.reduceSub, Nat.reduceMul, Int.reduceToNat, Int.reduceLT, Int.reduceLE, TES, XRE, XR, XRH, XRN, flt, atR, tellR, textR, ↓xguard_on, ↓xguard_no, ↓xguard_g0, Bool.not_true, Bool.not_false, XM]
  obtain ⟨ro, hro⟩ : ∃ ro, ro = opR r 4 6 (⟨false, an, tg, 0⟩ : Pp) r.pos := ⟨_, rfl⟩
  have hro' : ro = opR r 4 6 (⟨ha, an, tg, pe⟩ : Pp) r.pos := hro
  have hrp : ro.pos = r.pos := by rw [hro]; unfold opR; split <;> rfl
  rw [← hro, hrp]
  obtain ⟨R, hR⟩ : ∃ R, R = coR s it 125 4 r (⟨ha, an, tg, pe⟩ : Pp) := ⟨_, rfl⟩
  rw [← hR]
  have hC : R = if ro.cd ≠ 0 then ro else clL s it 125 r.ev.length (atR ro (r.pos + 1)) := by rw [hR, hro']; rfl
  refine Chk.mk (by simp only [inR]; omega) fun _ => ?_
  have hx0 : ∃ x0 : Rd, (x0.ev = ro.ev ∧ x0.cd = ro.cd ∧ x0.pl = ro.pl ∧ x0.dp = ro.dp ∧ x0.dn = ro.dn ∧ x0.bs = ro.bs ∧ x0.hd = ro.hd) ∧ ((x0.cd = 0 ∧ ((r.pos : Int) + 1) = (x0.pos : Nat) ∧ Ok s x0 ∧ x0.dp = r.dp + 1 ∧ r.dp < 40 ∧ (r.ev ++ [evO 4 6 an tg]) <+: x0.ev ∧ x0.bs = r.bs ∧ clL s it 125 r.ev.length x0 = R) ∨ (x0.cd ≠ 0 ∧ R = x0)) := by
    by_cases hz : ro.cd = 0
    · rw [hro] at hz
      obtain ⟨e, hd⟩ := opR_ok hz
      rw [if_neg (by rw [hro]; simpa using hz), hro] at hC
      have h9 := ho.sz
      have h8 := ho.bs
      refine ⟨atR ro (r.pos + 1), ⟨rfl, rfl, rfl, rfl, rfl, rfl, rfl⟩, .inl ?_⟩
      rw [hro]
      refine ⟨hz, by simp [atR], ?_, by rw [e]; rfl, hd, by rw [e]; exact List.prefix_refl _, by rw [e]; rfl, hC.symm⟩
      rw [e]
      exact ⟨ho.cd, hlt, by simp [atR, tellR, ho.dn], by simp only [atR, tellR, List.length_append]; omega, by simp only [atR]; omega, by simp only [atR, tellR, List.length_append, List.length_singleton]; omega, ho.hd, ho.pf⟩
    · exact ⟨ro, ⟨rfl, rfl, rfl, rfl, rfl, rfl, rfl⟩, .inr ⟨hz, by rw [hC, if_pos hz]⟩⟩
  obtain ⟨x0, ⟨e1, e2, e3, e4, e5, e6, e7⟩, hI0⟩ := hx0
  rw [← e1, ← e2, ← e3, ← e4, ← e5, ← e6, ← e7]
  refine VLoops.of (ι := {x : Rd × Int × Int // (x.1.cd = 0 ∧ x.2.1 = (x.1.pos : Nat) ∧ Ok s x.1 ∧ x.1.dp = r.dp + 1 ∧ r.dp < 40 ∧ (r.ev ++ [evO 4 6 an tg]) <+: x.1.ev ∧ x.1.bs = r.bs ∧ clL s it 125 r.ev.length x.1 = R) ∨ (x.1.cd ≠ 0 ∧ R = x.1)}) (fun x => ⟨[(0, .ptr 0 0 0), (4, .i .i64 (if 40 ≤ r.dp then (-2 : Int) else if an = [] then -1 else ((nmS r.ev r.dn r.bs).length : Nat)))], [some (.blk false [.s s, .i .i64 x.1.2.1, .slc 1 0 (x.1.1).ev.length, .i .i64 (x.1.1).cd, .i .i64 ((x.1.1).pl : Nat), .i .i64 ((x.1.1).dp : Nat), .slc 2 0 (nmS (x.1.1).ev (x.1.1).dn (x.1.1).bs).length, .slc 3 0 (x.1.1).hd.length, .i .i64 x.1.2.2]), some (.row false 8 (x.1.1).ev.length (rowE evc evz (x.1.1).ev)), some (.row false 2 (nmS (x.1.1).ev (x.1.1).dn (x.1.1).bs).length (rowE nac ([], false) (nmS (x.1.1).ev (x.1.1).dn (x.1.1).bs))), some (.row false 2 (x.1.1).hd.length (rowE hdc hdz (x.1.1).hd))]⟩) (fun x => if x.1.1.cd = 0 then s.length + 1 - x.1.1.pos else 0) ⟨(x0, (r.pos : Int) + 1, pr), hI0⟩ (Ent.ren1 [0, 1, 2, 3] (by decide) (by simp only [entCtx, at_cons_zero, at_cons_succ, and_true, true_and]; exact ⟨soLe_blk (by simp [mapHL, SV.mapH, muL, flt, atR, tellR, textR]), soLe_same fun _ => rfl, soLe_same fun _ => rfl, soLe_same fun _ => rfl⟩) (by simp [entEnv, Vg.look, SV.mapH, muL, XRE, XR, XRH, XRN, flt, atR, tellR, textR])) ?_
  rintro ⟨⟨x, a1, pr1⟩, hI⟩
  simp only [↓XC, XV, XT, forall_const, implies_true, reduceIte, Nat.reduceAdd, Nat.reduceLT, Nat.reduceEqDiff, Nat.reduceBEq, Nat.reduceLeDiff, reduceCtorEq, Nat.reduceSub, Nat.reduceMul, Int.reduceToNat, Int.reduceLT, Int.reduceLE, TES, XRE, XR, XRH, XRN, flt, atR, tellR, textR]
  by_cases hcx : x.cd = 0
  · have hI2 : x.cd = 0 ∧ a1 = (x.pos : Nat) ∧ Ok s x ∧ x.dp = r.dp + 1 ∧ r.dp < 40 ∧ (r.ev ++ [evO 4 6 an tg]) <+: x.ev ∧ x.bs = r.bs ∧ clL s it 125 r.ev.length x = R := by
      rcases hI with h | h
      · exact h
      · exact absurd hcx h.1
    obtain ⟨_, hxa, hx, hxd, hd40, hpre, hxb, hxc⟩ := hI2
    subst hxa
    obtain ⟨hit, HN⟩ := HI hd40
    have hsz := hx.size hs
    simp only [decide_eq_true hcx]
    simp only [↓XC, XV, XT, forall_const, implies_true, reduceIte, Nat.reduceAdd, Nat.reduceLT, Nat.reduceEqDiff, Nat.reduceBEq, Nat.reduceLeDiff, reduceCtorEq, Nat.reduceSub, Nat.reduceMul, Int.reduceToNat, Int.reduceLT, Int.reduceLE, TES, XRE, XR, XRH, XRN, flt, atR, tellR, textR, ↓xguard_on, ↓xguard_no, ↓xguard_g0, Bool.not_true, Bool.not_false]
    refine XCalls.mut (sgap s x pr1 ⟨hs, hcx, hx.pos⟩) rfl [0, 1, 2, 3] (by simp [mapHL, SV.mapH, muL]) (by simp only [ctxMap, at_cons_zero, at_cons_succ, and_true, List.length_cons, List.length_nil]; exact ⟨by omega, soLe_blk (by simp [mapHL, SV.mapH, muL, flt, atR, tellR, textR]), by omega, soLe_same fun _ => rfl, by omega, soLe_same fun _ => rfl, by omega, soLe_same fun _ => rfl⟩) (by decide) ?_
    simp only [↓XC, XV, XT, forall_const, implies_true, reduceIte, Nat.reduceAdd, Nat.reduceLT, Nat.reduceEqDiff, Nat.reduceBEq, Nat.reduceLeDiff, reduceCtorEq, Nat.reduceSub, Nat.reduceMul, Int.reduceToNat, Int.reduceLT, Int.reduceLE, TES, XRE, XR, XRH, XRN, flt, atR, tellR, textR, ↓xguard_on, ↓xguard_no, ↓xguard_g0, Bool.not_true, Bool.not_false, XM]
    obtain ⟨g, hg⟩ : ∃ g, g = gapR s x := ⟨_, rfl⟩
    rw [← hg]
    refine ⟨fun hgz => ?_, fun hgz => ?_⟩
    · have hgz' : (gapR s x).cd = 0 := by rw [← hg]; exact hgz
      have hgo : Ok s g := by rw [hg]; exact hx.gap hgz'
      have hgsz := hgo.size hs
      obtain ⟨e9, hp9⟩ := gapR_ok hgz'
      have hgp : g.pos < s.length := by rw [hg, e9]; exact hp9
      have hgd : g.dp = r.dp + 1 := by rw [hg, e9]; exact hxd
      have hge : g.ev = x.ev := by rw [hg, e9]; rfl
      have hgb : g.bs = r.bs := by rw [hg, e9]; exact hxb
      obtain ⟨tl, htl⟩ := hpre
      refine XCalls.mut (sbyte s g pr1 hs) rfl [0, 1, 2, 3] (by simp [mapHL, SV.mapH, muL]) (by simp only [ctxMap, at_cons_zero, at_cons_succ, and_true, List.length_cons, List.length_nil]; exact ⟨by omega, soLe_blk (by simp [mapHL, SV.mapH, muL, flt, atR, tellR, textR]), by omega, soLe_same fun _ => rfl, by omega, soLe_same fun _ => rfl, by omega, soLe_same fun _ => rfl⟩) (by decide) ?_
      simp only [↓XC, XV, XT, forall_const, implies_true, reduceIte, Nat.reduceAdd, Nat.reduceLT, Nat.reduceEqDiff, Nat.reduceBEq, Nat.reduceLeDiff, reduceCtorEq, Nat.reduceSub, Nat.reduceMul, Int.reduceToNat, Int.reduceLT, Int.reduceLE, TES, XRE, XR, XRH, XRN, flt, atR, tellR, textR, ↓xguard_on, ↓xguard_no, ↓xguard_g0, Bool.not_true, Bool.not_false, XM]
      simp only [by0 (show (0 : Int) < 125 by decide)]
      refine ⟨fun h2 => Chk.mk (by simp only [inR]; omega) fun _ => ?_, fun h2 => ?_⟩
      · have hN : (if 40 ≤ r.dp then (-2 : Int) else if an = [] then -1 else ((nmS r.ev r.dn r.bs).length : Nat)) = (if ((atR g (g.pos + 1)).ev.getD r.ev.length evz).anchor = [] then (-1 : Int) else ((anI (List.take r.ev.length (atR g (g.pos + 1)).ev) (atR g (g.pos + 1)).bs).length : Nat)) := by
          rw [if_neg (by omega), show (atR g (g.pos + 1)).ev = x.ev from hge, show (atR g (g.pos + 1)).bs = r.bs from hgb, ← htl]
          simp [evO, nmS, List.getElem?_append_right]
        rw [hN]
        refine XCalls.reb (sclose s (atR g (g.pos + 1)) pr1 r.ev.length ⟨by show g.ev.length ≤ _; omega, hgo.dn, hgo.bs, by show r.ev.length < g.ev.length; rw [hge, ← htl]; simp, by show g.bs ≤ _; rw [hgb]; exact ho.bs, by show 0 < g.dp; omega, hgo.dp⟩) [0, 1, 2, 3] (by simp [mapHL, SV.mapH, muL]) (by simp only [ctxMap, at_cons_zero, at_cons_succ, and_true, List.length_cons, List.length_nil]; exact ⟨by omega, soLe_blk (by simp [mapHL, SV.mapH, muL, flt, atR, tellR, textR]), by omega, soLe_same fun _ => rfl, by omega, soLe_same fun _ => rfl, by omega, soLe_same fun _ => rfl⟩) (by decide) (by simp [newRw, SO.ro]) (by decide) (by simp [cleanC, upds, cleanO, noHL, noH, SO.ro, litEl]) ?_
        simp only [↓XC, XV, XT, forall_const, implies_true, reduceIte, Nat.reduceAdd, Nat.reduceLT, Nat.reduceEqDiff, Nat.reduceBEq, Nat.reduceLeDiff, reduceCtorEq, Nat.reduceSub, Nat.reduceMul, Int.reduceToNat, Int.reduceLT, Int.reduceLE, TES, XRE, XR, XRH, XRN, flt, atR, tellR, textR, ↓xguard_on, ↓xguard_no, ↓xguard_g0, Bool.not_true, Bool.not_false, XM]
        have eR : R = shR (atR g (g.pos + 1)) r.ev.length := by rw [← hxc, clL_end hgz' (by rw [← hg]; exact h2), ← hg]
        rw [eR]
        refine ⟨.tup [], [some (.blk false [.s s, .i .i64 (((shR (atR g (g.pos + 1)) r.ev.length).pos : Nat) : Int), .slc 1 0 (shR (atR g (g.pos + 1)) r.ev.length).ev.length, .i .i64 (shR (atR g (g.pos + 1)) r.ev.length).cd, .i .i64 ((shR (atR g (g.pos + 1)) r.ev.length).pl : Nat), .i .i64 ((shR (atR g (g.pos + 1)) r.ev.length).dp : Nat), .slc 2 0 (nmS (shR (atR g (g.pos + 1)) r.ev.length).ev (shR (atR g (g.pos + 1)) r.ev.length).dn (shR (atR g (g.pos + 1)) r.ev.length).bs).length, .slc 3 0 (shR (atR g (g.pos + 1)) r.ev.length).hd.length, .i .i64 pr1]), some (.row false 8 (shR (atR g (g.pos + 1)) r.ev.length).ev.length (rowE evc evz (shR (atR g (g.pos + 1)) r.ev.length).ev)), some (.row false 2 (nmS (shR (atR g (g.pos + 1)) r.ev.length).ev (shR (atR g (g.pos + 1)) r.ev.length).dn (shR (atR g (g.pos + 1)) r.ev.length).bs).length (rowE nac ([], false) (nmS (shR (atR g (g.pos + 1)) r.ev.length).ev (shR (atR g (g.pos + 1)) r.ev.length).dn (shR (atR g (g.pos + 1)) r.ev.length).bs))), some (.row false 2 (shR (atR g (g.pos + 1)) r.ev.length).hd.length (rowE hdc hdz (shR (atR g (g.pos + 1)) r.ev.length).hd))], ⟨(((shR (atR g (g.pos + 1)) r.ev.length).pos : Nat) : Int), pr1, fun _ => rfl, rfl, rfl⟩, ?_⟩
        exact ⟨[0, 1, 2, 3], by decide, by simp only [entCtx, at_cons_zero, at_cons_succ, and_true, true_and]; exact ⟨soLe_blk (by simp [mapHL, SV.mapH, muL, flt, atR, tellR, textR]), soLe_same fun _ => rfl, soLe_same fun _ => rfl, soLe_same fun _ => rfl⟩, by simp only [↓XC, XV, XT, forall_const, implies_true, reduceIte, Nat.reduceAdd, Nat.reduceLT, Nat.reduceEqDiff, Nat.reduceBEq, Nat.reduceLeDiff, reduceCtorEq, Nat.reduceSub, Nat.reduceMul, Int.reduceToNat, Int.reduceLT, Int.reduceLE]; try first | rfl | simp [muL, SV.mapH, mapHL], by simp [newRw, SO.ro], by simp⟩
      · obtain ⟨t, ht⟩ : ∃ t, t = it g := ⟨_, rfl⟩
        have hN := HN g pr1 hgo hgd
        rw [← ht] at hN
        unfold NodeS spC at hN
        refine XCalls.rebQ (hN) [0, 1, 2, 3] (by simp [mapHL, SV.mapH, muL]) (by simp only [ctxMap, at_cons_zero, at_cons_succ, and_true, List.length_cons, List.length_nil]; exact ⟨by omega, soLe_blk (by simp [mapHL, SV.mapH, muL, flt, atR, tellR, textR]), by omega, soLe_same fun _ => rfl, by omega, soLe_same fun _ => rfl, by omega, soLe_same fun _ => rfl⟩) (by decide) (by simp [newRw, SO.ro]) (by decide) (by simp [cleanC, upds, cleanO, noHL, noH, SO.ro, litEl]) ?_
        rintro z c ⟨a2, pr2, ha2, rfl, rfl⟩
        simp only [↓XC, XV, XT, forall_const, implies_true, reduceIte, Nat.reduceAdd, Nat.reduceLT, Nat.reduceEqDiff, Nat.reduceBEq, Nat.reduceLeDiff, reduceCtorEq, Nat.reduceSub, Nat.reduceMul, Int.reduceToNat, Int.reduceLT, Int.reduceLE, TES, XRE, XR, XRH, XRN, flt, atR, tellR, textR, ↓xguard_on, ↓xguard_no, ↓xguard_g0, Bool.not_true, Bool.not_false, XM]
        by_cases htz : t.cd = 0
        · have ha2' := ha2 htz
          subst ha2'
          have htz' : (it (gapR s x)).cd = 0 := by rw [← hg, ← ht]; exact htz
          have hst := hit g hgo hgd (by rw [← ht]; exact htz)
          rw [← ht] at hst
          have hto := hst.ok
          simp only [decide_eq_true htz]
          simp only [↓XC, XV, XT, forall_const, implies_true, reduceIte, Nat.reduceAdd, Nat.reduceLT, Nat.reduceEqDiff, Nat.reduceBEq, Nat.reduceLeDiff, reduceCtorEq, Nat.reduceSub, Nat.reduceMul, Int.reduceToNat, Int.reduceLT, Int.reduceLE, TES, XRE, XR, XRH, XRN, flt, atR, tellR, textR, ↓xguard_on, ↓xguard_no, ↓xguard_g0, Bool.not_true, Bool.not_false]
          refine XCalls.mut (sgap s t pr2 ⟨hs, htz, hto.pos⟩) rfl [0, 1, 2, 3] (by simp [mapHL, SV.mapH, muL]) (by simp only [ctxMap, at_cons_zero, at_cons_succ, and_true, List.length_cons, List.length_nil]; exact ⟨by omega, soLe_blk (by simp [mapHL, SV.mapH, muL, flt, atR, tellR, textR]), by omega, soLe_same fun _ => rfl, by omega, soLe_same fun _ => rfl, by omega, soLe_same fun _ => rfl⟩) (by decide) ?_
          simp only [↓XC, XV, XT, forall_const, implies_true, reduceIte, Nat.reduceAdd, Nat.reduceLT, Nat.reduceEqDiff, Nat.reduceBEq, Nat.reduceLeDiff, reduceCtorEq, Nat.reduceSub, Nat.reduceMul, Int.reduceToNat, Int.reduceLT, Int.reduceLE, TES, XRE, XR, XRH, XRN, flt, atR, tellR, textR, ↓xguard_on, ↓xguard_no, ↓xguard_g0, Bool.not_true, Bool.not_false, XM]
          obtain ⟨g2, hg2⟩ : ∃ g2, g2 = gapR s t := ⟨_, rfl⟩
          have hg2' : g2 = gapR s (it (gapR s x)) := by rw [hg2, ht, hg]
          rw [← hg2]
          refine ⟨fun h => ?_, fun h => ?_⟩
          · have h2z : ¬ g2.cd = 0 := by simpa using h
            have eR : R = g2 := by rw [← hxc, clL_g2 hgz' (by rw [← hg]; exact h2) htz' (by rw [← hg2']; exact h2z), ← hg2']
            rw [eR]
            refine ⟨.tup [], [some (.blk false [.s s, .i .i64 ((g2.pos : Nat) : Int), .slc 1 0 (g2).ev.length, .i .i64 (g2).cd, .i .i64 ((g2).pl : Nat), .i .i64 ((g2).dp : Nat), .slc 2 0 (nmS (g2).ev (g2).dn (g2).bs).length, .slc 3 0 (g2).hd.length, .i .i64 pr2]), some (.row false 8 (g2).ev.length (rowE evc evz (g2).ev)), some (.row false 2 (nmS (g2).ev (g2).dn (g2).bs).length (rowE nac ([], false) (nmS (g2).ev (g2).dn (g2).bs))), some (.row false 2 (g2).hd.length (rowE hdc hdz (g2).hd))], ⟨((g2.pos : Nat) : Int), pr2, fun _ => rfl, rfl, rfl⟩, ?_⟩
            exact ⟨[0, 1, 2, 3], by decide, by simp only [entCtx, at_cons_zero, at_cons_succ, and_true, true_and]; exact ⟨soLe_blk (by simp [mapHL, SV.mapH, muL, flt, atR, tellR, textR]), soLe_same fun _ => rfl, soLe_same fun _ => rfl, soLe_same fun _ => rfl⟩, by simp only [↓XC, XV, XT, forall_const, implies_true, reduceIte, Nat.reduceAdd, Nat.reduceLT, Nat.reduceEqDiff, Nat.reduceBEq, Nat.reduceLeDiff, reduceCtorEq, Nat.reduceSub, Nat.reduceMul, Int.reduceToNat, Int.reduceLT, Int.reduceLE]; try first | rfl | simp [muL, SV.mapH, mapHL], by simp [newRw, SO.ro], by simp⟩
          have h2z : g2.cd = 0 := by simpa using h
          have h2z' : (gapR s (it (gapR s x))).cd = 0 := by rw [← hg2']; exact h2z
          have hg2o : Ok s g2 := by rw [hg2]; exact hto.gap (by rw [← hg2]; exact h2z)
          have hg2p : g2.pos < s.length := by
            obtain ⟨e9, h9⟩ := gapR_ok (s := s) (r := t) (by rw [← hg2]; exact h2z)
            rw [hg2, e9]; exact h9
          have hcm : (cmR s g2 125).cd = 0 → ∀ t2, t2 = cmR s g2 125 → (t2.cd = 0 ∧ Ok s t2 ∧ t2.dp = r.dp + 1 ∧ (r.ev ++ [evO 4 6 an tg]) <+: t2.ev ∧ t2.bs = r.bs ∧ clL s it 125 r.ev.length t2 = R) ∧ x.pos < t2.pos ∧ t2.pos ≤ s.length := fun hz t2 ht2 => by
            have ht2' : t2 = cmR s (gapR s (it (gapR s x))) 125 := by rw [ht2, hg2']
            have h3z : t2.cd = 0 := by rw [ht2]; exact hz
            have hrd := cl_round hit hx hxd hgz' htz' h2z' (by rw [← ht2']; exact h3z)
            rw [← ht2'] at hrd
            have hlt3 := hrd.lt
            have hpo3 := hrd.ok.pos
            refine ⟨⟨h3z, hrd.ok, hrd.dp.trans hxd, ?_, hrd.bs.trans hxb, ?_⟩, hlt3, hpo3⟩
            · exact List.IsPrefix.trans ⟨tl, htl⟩ hrd.pre
            · rw [← hxc, clL_go hgz' (by rw [← hg]; exact h2) htz' h2z' ⟨by rw [← ht2']; exact h3z, by rw [← ht2']; exact hlt3, by omega⟩, ← ht2']
          refine XCalls.mut (sbyte s g2 pr2 hs) rfl [0, 1, 2, 3] (by simp [mapHL, SV.mapH, muL]) (by simp only [ctxMap, at_cons_zero, at_cons_succ, and_true, List.length_cons, List.length_nil]; exact ⟨by omega, soLe_blk (by simp [mapHL, SV.mapH, muL, flt, atR, tellR, textR]), by omega, soLe_same fun _ => rfl, by omega, soLe_same fun _ => rfl, by omega, soLe_same fun _ => rfl⟩) (by decide) ?_
          simp only [↓XC, XV, XT, forall_const, implies_true, reduceIte, Nat.reduceAdd, Nat.reduceLT, Nat.reduceEqDiff, Nat.reduceBEq, Nat.reduceLeDiff, reduceCtorEq, Nat.reduceSub, Nat.reduceMul, Int.reduceToNat, Int.reduceLT, Int.reduceLE, TES, XRE, XR, XRH, XRN, flt, atR, tellR, textR, ↓xguard_on, ↓xguard_no, ↓xguard_g0, Bool.not_true, Bool.not_false, XM]
          simp only [by0 (show (0 : Int) < 44 by decide)]
          refine ⟨fun h44 => Chk.mk (by simp only [inR]; omega) fun _ => ?_, fun h44 => ?_⟩
          · have e : cmR s g2 125 = atR g2 (g2.pos + 1) := by unfold cmR; rw [if_pos h44]
            obtain ⟨⟨k1, k2, k3, k4, k5, k6⟩, k7, k8⟩ := hcm (by rw [e]; exact h2z) _ e.symm
            refine ⟨⟨(atR g2 (g2.pos + 1), ((g2.pos + 1 : Nat) : Int), pr2), .inl ⟨k1, rfl, k2, k3, hd40, k4, k5, k6⟩⟩, ?_, ?_⟩
            · rw [if_pos hcx]
              show (if (atR g2 (g2.pos + 1)).cd = 0 then s.length + 1 - (g2.pos + 1) else 0) < _
              rw [if_pos k1]
              have k7' : x.pos < g2.pos + 1 := k7
              omega
            · exact (Ent.ren1 [0, 1, 2, 3] (by decide) (by simp only [entCtx, at_cons_zero, at_cons_succ, and_true, true_and]; exact ⟨soLe_blk (by simp [mapHL, SV.mapH, muL, flt, atR, tellR, textR]), soLe_same fun _ => rfl, soLe_same fun _ => rfl, soLe_same fun _ => rfl⟩) (by simp [entEnv, Vg.look, SV.mapH, muL, XRE, XR, XRH, XRN, flt, atR, tellR, textR]))
          refine XCalls.mut (sbyte s g2 pr2 hs) rfl [0, 1, 2, 3] (by simp [mapHL, SV.mapH, muL]) (by simp only [ctxMap, at_cons_zero, at_cons_succ, and_true, List.length_cons, List.length_nil]; exact ⟨by omega, soLe_blk (by simp [mapHL, SV.mapH, muL, flt, atR, tellR, textR]), by omega, soLe_same fun _ => rfl, by omega, soLe_same fun _ => rfl, by omega, soLe_same fun _ => rfl⟩) (by decide) ?_
          simp only [↓XC, XV, XT, forall_const, implies_true, reduceIte, Nat.reduceAdd, Nat.reduceLT, Nat.reduceEqDiff, Nat.reduceBEq, Nat.reduceLeDiff, reduceCtorEq, Nat.reduceSub, Nat.reduceMul, Int.reduceToNat, Int.reduceLT, Int.reduceLE, TES, XRE, XR, XRH, XRN, flt, atR, tellR, textR, ↓xguard_on, ↓xguard_no, ↓xguard_g0, Bool.not_true, Bool.not_false, XM]
          simp only [by0 (show (0 : Int) < 125 by decide)]
          refine ⟨fun h => ?_, fun h => ?_⟩
          · have hc : ¬ byt s g2.pos = 125 := by simpa using h
            have e : cmR s g2 125 = flt g2 11 g2.pos := by unfold cmR; rw [if_neg h44, if_neg hc]
            have hz : ¬ (cmR s g2 125).cd = 0 := by rw [e]; exact (by decide : ¬ ((11 : Int) = 0))
            refine XCalls.mut (sfail s g2 pr2 11 g2.pos h2z) rfl [0, 1, 2, 3] (by simp [mapHL, SV.mapH, muL]) (by simp only [ctxMap, at_cons_zero, at_cons_succ, and_true, List.length_cons, List.length_nil]; exact ⟨by omega, soLe_blk (by simp [mapHL, SV.mapH, muL, flt, atR, tellR, textR]), by omega, soLe_same fun _ => rfl, by omega, soLe_same fun _ => rfl, by omega, soLe_same fun _ => rfl⟩) (by decide) ?_
            simp only [↓XC, XV, XT, forall_const, implies_true, reduceIte, Nat.reduceAdd, Nat.reduceLT, Nat.reduceEqDiff, Nat.reduceBEq, Nat.reduceLeDiff, reduceCtorEq, Nat.reduceSub, Nat.reduceMul, Int.reduceToNat, Int.reduceLT, Int.reduceLE, TES, XRE, XR, XRH, XRN, flt, atR, tellR, textR, ↓xguard_on, ↓xguard_no, ↓xguard_g0, Bool.not_true, Bool.not_false, XM]
            have hfz : ¬ (flt g2 11 g2.pos).cd = 0 := (by decide : ¬ ((11 : Int) = 0))
            refine ⟨⟨(flt g2 11 g2.pos, ((g2.pos : Nat) : Int), pr2), .inr ⟨hfz, ?_⟩⟩, ?_, ?_⟩
            · rw [← hxc, clL_cm hgz' (by rw [← hg]; exact h2) htz' h2z' (by rw [← hg2']; exact hz), ← hg2', e]
            · rw [if_pos hcx]
              show (if (flt g2 11 g2.pos).cd = 0 then _ else 0) < _
              rw [if_neg hfz]
              have := hx.pos
              omega
            · exact (Ent.ren1 [0, 1, 2, 3] (by decide) (by simp only [entCtx, at_cons_zero, at_cons_succ, and_true, true_and]; exact ⟨soLe_blk (by simp [mapHL, SV.mapH, muL, flt, atR, tellR, textR]), soLe_same fun _ => rfl, soLe_same fun _ => rfl, soLe_same fun _ => rfl⟩) (by simp [entEnv, Vg.look, SV.mapH, muL, XRE, XR, XRH, XRN, flt, atR, tellR, textR]))
          · have hc : byt s g2.pos = 125 := by simpa using h
            have e : cmR s g2 125 = g2 := by unfold cmR; rw [if_neg h44, if_pos hc]
            obtain ⟨⟨k1, k2, k3, k4, k5, k6⟩, k7, k8⟩ := hcm (by rw [e]; exact h2z) _ e.symm
            refine ⟨⟨(g2, ((g2.pos : Nat) : Int), pr2), .inl ⟨k1, rfl, k2, k3, hd40, k4, k5, k6⟩⟩, ?_, ?_⟩
            · rw [if_pos hcx]
              show (if g2.cd = 0 then s.length + 1 - g2.pos else 0) < _
              rw [if_pos k1]
              omega
            · exact (Ent.ren1 [0, 1, 2, 3] (by decide) (by simp only [entCtx, at_cons_zero, at_cons_succ, and_true, true_and]; exact ⟨soLe_blk (by simp [mapHL, SV.mapH, muL, flt, atR, tellR, textR]), soLe_same fun _ => rfl, soLe_same fun _ => rfl, soLe_same fun _ => rfl⟩) (by simp [entEnv, Vg.look, SV.mapH, muL, XRE, XR, XRH, XRN, flt, atR, tellR, textR]))
        · simp only [decide_eq_false htz]
          simp only [↓XC, XV, XT, forall_const, implies_true, reduceIte, Nat.reduceAdd, Nat.reduceLT, Nat.reduceEqDiff, Nat.reduceBEq, Nat.reduceLeDiff, reduceCtorEq, Nat.reduceSub, Nat.reduceMul, Int.reduceToNat, Int.reduceLT, Int.reduceLE, TES, XRE, XR, XRH, XRN, flt, atR, tellR, textR, ↓xguard_on, ↓xguard_no, ↓xguard_g0, Bool.not_true, Bool.not_false]
          have eR : R = t := by rw [← hxc, clL_it hgz' (by rw [← hg]; exact h2) (by rw [← hg, ← ht]; exact htz), ← hg, ← ht]
          rw [eR]
          refine ⟨.tup [], [some (.blk false [.s s, .i .i64 a2, .slc 1 0 (t).ev.length, .i .i64 (t).cd, .i .i64 ((t).pl : Nat), .i .i64 ((t).dp : Nat), .slc 2 0 (nmS (t).ev (t).dn (t).bs).length, .slc 3 0 (t).hd.length, .i .i64 pr2]), some (.row false 8 (t).ev.length (rowE evc evz (t).ev)), some (.row false 2 (nmS (t).ev (t).dn (t).bs).length (rowE nac ([], false) (nmS (t).ev (t).dn (t).bs))), some (.row false 2 (t).hd.length (rowE hdc hdz (t).hd))], ⟨a2, pr2, fun h => absurd h htz, rfl, rfl⟩, ?_⟩
          exact ⟨[0, 1, 2, 3], by decide, by simp only [entCtx, at_cons_zero, at_cons_succ, and_true, true_and]; exact ⟨soLe_blk (by simp [mapHL, SV.mapH, muL, flt, atR, tellR, textR]), soLe_same fun _ => rfl, soLe_same fun _ => rfl, soLe_same fun _ => rfl⟩, by simp only [↓XC, XV, XT, forall_const, implies_true, reduceIte, Nat.reduceAdd, Nat.reduceLT, Nat.reduceEqDiff, Nat.reduceBEq, Nat.reduceLeDiff, reduceCtorEq, Nat.reduceSub, Nat.reduceMul, Int.reduceToNat, Int.reduceLT, Int.reduceLE]; try first | rfl | simp [muL, SV.mapH, mapHL], by simp [newRw, SO.ro], by simp⟩
    · have eR : R = g := by rw [← hxc, clL_gap (by rw [← hg]; exact hgz), ← hg]
      rw [eR]
      refine ⟨.tup [], [some (.blk false [.s s, .i .i64 ((g.pos : Nat) : Int), .slc 1 0 (g).ev.length, .i .i64 (g).cd, .i .i64 ((g).pl : Nat), .i .i64 ((g).dp : Nat), .slc 2 0 (nmS (g).ev (g).dn (g).bs).length, .slc 3 0 (g).hd.length, .i .i64 pr1]), some (.row false 8 (g).ev.length (rowE evc evz (g).ev)), some (.row false 2 (nmS (g).ev (g).dn (g).bs).length (rowE nac ([], false) (nmS (g).ev (g).dn (g).bs))), some (.row false 2 (g).hd.length (rowE hdc hdz (g).hd))], ⟨((g.pos : Nat) : Int), pr1, fun _ => rfl, rfl, rfl⟩, ?_⟩
      exact ⟨[0, 1, 2, 3], by decide, by simp only [entCtx, at_cons_zero, at_cons_succ, and_true, true_and]; exact ⟨soLe_blk (by simp [mapHL, SV.mapH, muL, flt, atR, tellR, textR]), soLe_same fun _ => rfl, soLe_same fun _ => rfl, soLe_same fun _ => rfl⟩, by simp only [↓XC, XV, XT, forall_const, implies_true, reduceIte, Nat.reduceAdd, Nat.reduceLT, Nat.reduceEqDiff, Nat.reduceBEq, Nat.reduceLeDiff, reduceCtorEq, Nat.reduceSub, Nat.reduceMul, Int.reduceToNat, Int.reduceLT, Int.reduceLE]; try first | rfl | simp [muL, SV.mapH, mapHL], by simp [newRw, SO.ro], by simp⟩
  · simp only [decide_eq_false hcx]
    simp only [↓XC, XV, XT, forall_const, implies_true, reduceIte, Nat.reduceAdd, Nat.reduceLT, Nat.reduceEqDiff, Nat.reduceBEq, Nat.reduceLeDiff, reduceCtorEq, Nat.reduceSub, Nat.reduceMul, Int.reduceToNat, Int.reduceLT, Int.reduceLE, TES, XRE, XR, XRH, XRN, flt, atR, tellR, textR, ↓xguard_on, ↓xguard_no, ↓xguard_g0, Bool.not_true, Bool.not_false]
    have hR : R = x := by
      rcases hI with h | h
      · exact absurd h.1 hcx
      · exact h.2
    have eR : R = x := hR
    rw [eR]
    refine ⟨.tup [], [some (.blk false [.s s, .i .i64 a1, .slc 1 0 (x).ev.length, .i .i64 (x).cd, .i .i64 ((x).pl : Nat), .i .i64 ((x).dp : Nat), .slc 2 0 (nmS (x).ev (x).dn (x).bs).length, .slc 3 0 (x).hd.length, .i .i64 pr1]), some (.row false 8 (x).ev.length (rowE evc evz (x).ev)), some (.row false 2 (nmS (x).ev (x).dn (x).bs).length (rowE nac ([], false) (nmS (x).ev (x).dn (x).bs))), some (.row false 2 (x).hd.length (rowE hdc hdz (x).hd))], ⟨a1, pr1, fun h => absurd h hcx, rfl, rfl⟩, ?_⟩
    exact ⟨[0, 1, 2, 3], by decide, by simp only [entCtx, at_cons_zero, at_cons_succ, and_true, true_and]; exact ⟨soLe_blk (by simp [mapHL, SV.mapH, muL, flt, atR, tellR, textR]), soLe_same fun _ => rfl, soLe_same fun _ => rfl, soLe_same fun _ => rfl⟩, by simp only [↓XC, XV, XT, forall_const, implies_true, reduceIte, Nat.reduceAdd, Nat.reduceLT, Nat.reduceEqDiff, Nat.reduceBEq, Nat.reduceLeDiff, reduceCtorEq, Nat.reduceSub, Nat.reduceMul, Int.reduceToNat, Int.reduceLT, Int.reduceLE]; try first | rfl | simp [muL, SV.mapH, mapHL], by simp [newRw, SO.ro], by simp⟩
end Go.T83
