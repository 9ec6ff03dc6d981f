/- Own text: part MarkA. -/
import Derived.Test.YtjphhddbkjdbnaaDoorTypes2
import Derived.Test.YtjphhddbkjdbnaaDoorTextA
import Derived.Test.YtjphhddbkjdbnaaDoorBaseE
set_option linter.unusedVariables false
set_option linter.unusedSimpArgs false
namespace Go.T44
set_option linter.unusedSectionVars false
variable [Go.Vg.Glob]
open Go.Proofs Go.Vg Go.RowKit Go.TT Go.Pl Go.T8
set_option linter.unusedVariables false
set_option linter.unusedSimpArgs false
set_option maxRecDepth 10000
set_option maxHeartbeats 4000000
theorem markText (k : Int) (hp : k ≤ 1073741824) : PF Tryd.prog 33 [.i .i64 k] (.s (mtx k)) := by
  refine ⟨rfl, rfl, FnK.of (cf := mkCf Tryd.prog te [] 20 0 false (fun _ => false) (kp [(0, [0]), (1, [0, 5]), (2, [2]), (3, [0, 3]), (4, [0, 3, 7]), (5, [0, 3]), (6, [0, 3]), (7, [2])]) [] []) (mkCf_ok te_ok (l := []) (trivial) mixed_ok) Tryd.func33 rfl rfl rfl (by simp [mkCf]) (by simp [mkCf]) (rs := [.tmp 2]) rfl 100000 ?_⟩
  simp only [↓XC, XV, entry, isStr, tdOf, szOf, zeroOf, TD.isStruct, okCell, cellsOf, SO.isMap, SO.sz, SO.el, SO.n, SO.ro, mkCf, quietOp, opClass, okLeaf, spl, cellV, isU8T, isSlS, fillS, fillP, repl, SO.put, SV.mapH, frzV, frzVL, frzOk, frzOkL, lendOk, SV.bit, bitL, SV.plain, plainL, isE, mapHL, strip, stripL, gok, gokL, forall_const, implies_true, reduceIte, Nat.reduceAdd, Nat.reduceLT, Nat.reduceEqDiff, Nat.reduceBEq, Nat.reduceLeDiff, reduceCtorEq, Nat.reduceSub, Nat.reduceMul, Int.reduceToNat, Int.reduceLT, Int.reduceLE, TES, XR]
  refine ⟨fun h => by rw [mtx, if_pos h], fun h => ?_⟩
  refine VLoops.of (ι := {x : Nat × List UInt8 // DecInv k.toNat x.1 x.2}) (fun x => ⟨[(0, .i .i64 (x.1.1 : Nat)), (3, .s x.1.2)], []⟩) (fun x => x.1.1) ⟨(k.toNat, []), Nat.le_refl _, by rw [if_neg (by omega)]; simp⟩ (by rw [show ((k.toNat : Nat) : Int) = k by omega]; exact Ent.refl _ _) ?_
  rintro ⟨⟨m, out⟩, hm⟩
  simp only [↓XC, XV, entry, isStr, tdOf, szOf, zeroOf, TD.isStruct, okCell, cellsOf, SO.isMap, SO.sz, SO.el, SO.n, SO.ro, mkCf, quietOp, opClass, okLeaf, spl, cellV, isU8T, isSlS, fillS, fillP, repl, SO.put, SV.mapH, frzV, frzVL, frzOk, frzOkL, lendOk, SV.bit, bitL, SV.plain, plainL, isE, mapHL, strip, stripL, gok, gokL, forall_const, implies_true, reduceIte, Nat.reduceAdd, Nat.reduceLT, Nat.reduceEqDiff, Nat.reduceBEq, Nat.reduceLeDiff, reduceCtorEq, Nat.reduceSub, Nat.reduceMul, Int.reduceToNat, Int.reduceLT, Int.reduceLE, TES]
  have e1 : (m : Int).tmod 10 = ((m % 10 : Nat) : Int) := tmod_nat m 10
  have e2 : (m : Int).tdiv 10 = ((m / 10 : Nat) : Int) := tdiv_nat m 10
  simp only [e1, e2]
  have e3 : ((48 : Int) + ((m % 10 : Nat) : Int)).toNat = 48 + m % 10 := by omega
  have hl := hm.len
  have hmk : m ≤ k.toNat := hm.1
  simp only at hm hl
  refine ⟨fun hc => Chk.mk (by decide) fun _ => Chk.mk (by simp only [inR]; omega) fun _ => Chk.mk (by simp only [inR]; omega) fun _ => ⟨isU8_one, Chk.mk (by omega) fun _ => ⟨by decide, Chk.mk (by simp only [inR]; omega) fun _ => ?_⟩⟩, fun hc => Chk.mk (by omega) fun _ => ?_⟩
  · rw [e3]
    exact ⟨⟨(m / 10, UInt8.ofNat (48 + m % 10) :: out), hm.step (by omega)⟩, by simp only; omega, Ent.nil (by simp [entEnv, Vg.look, SV.mapH])⟩
  · have hm0 : m = 0 := by omega
    subst hm0
    have := hm.2
    rw [if_pos rfl] at this
    rw [mtx, if_neg h, this]
noncomputable def pe_markText : PE := peR (fun (k : Int) => [.i .i64 k]) (fun (k : Int) => k ≤ 1073741824) (fun (k : Int) => .s (mtx k))
theorem pe_markText_eq {k : Int} : pe_markText [.i .i64 k] = some (k ≤ 1073741824, .s (mtx k)) := peR_eq (by rintro a b h; simp_all []) k
theorem pe_markText_ok : PE1 Tryd.prog 33 pe_markText := peR_ok (by rintro k hp; exact markText k hp)
end Go.T44
