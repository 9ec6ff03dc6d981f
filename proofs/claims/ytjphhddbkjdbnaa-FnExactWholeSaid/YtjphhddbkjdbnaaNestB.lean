/- Own text: part NestB. -/
import Derived.Test.YtjphhddbkjdbnaaTypes2
import Derived.Test.YtjphhddbkjdbnaaEventA
import Derived.Test.YtjphhddbkjdbnaaNestA
import Derived.Test.YtjphhddbkjdbnaaBaseE
namespace Go.T15
open Go.Proofs Go.Vg Go.RowKit Go.TT Go.Pl Go.T8 Go.T12 Go.T14
set_option linter.unusedVariables false
set_option linter.unusedSimpArgs false
set_option maxRecDepth 10000
set_option maxHeartbeats 4000000
theorem Nested_i (l : List Ev) (hp : l.length ≤ 1048576) : PF Try.prog 47 [.fs 8 (l.map evc)] (.b (nested l)) := by
  refine ⟨rfl, rfl, FnK.of (cf := mkCf Try.prog te [(86, pe_EventOk_i)] 66 0 false (fun _ => false) (kp [(0, [0]), (1, [0, 23]), (2, [2]), (3, [0, 3]), (4, [0, 3, 27, 28, 29]), (5, [0, 3, 27, 28, 29, 30]), (6, [0, 3, 4, 5, 27, 28, 29]), (7, [0, 3, 5, 6, 27, 28, 29]), (8, [0, 3, 5, 6, 27, 28, 29, 39]), (9, [2]), (10, [0, 3, 5, 6, 27, 28, 29, 43]), (11, [2]), (12, [0, 3, 5, 6, 27, 28, 29, 48]), (13, [2]), (14, [0, 3, 27, 28, 29, 60]), (15, [2]), (16, [0, 3, 27, 28, 29]), (17, [2])]) [] []) (mkCf_ok te_ok (l := [(86, pe_EventOk_i)]) (⟨pe_EventOk_i_ok, trivial⟩) mixed_ok) Try.func47 rfl rfl rfl (by simp [mkCf]) (by simp [mkCf]) (rs := [.tmp 2]) rfl 100000 ?_⟩
  simp only [↓XC, XV, entry, isStr, tdOf, szOf, zeroOf, TD.isStruct, okCell, cellsOf, SO.isMap, SO.sz, SO.el, SO.n, SO.ro, mkCf, quietOp, opClass, okLeaf, spl, cellV, isU8T, isSlS, fillS, fillP, repl, SO.put, SV.mapH, frzV, frzVL, frzOk, frzOkL, lendOk, SV.bit, bitL, SV.plain, plainL, isE, mapHL, strip, stripL, gok, gokL, forall_const, implies_true, reduceIte, Nat.reduceAdd, Nat.reduceLT, Nat.reduceEqDiff, Nat.reduceBEq, Nat.reduceLeDiff, reduceCtorEq, Nat.reduceSub, Nat.reduceMul, Int.reduceToNat, Int.reduceLT, Int.reduceLE, TES, pe_EventOk_i_eq, XRE]
  have hbx : ∀ {p : Prop}, (decide ((l.length : Int) < 2) || !decide ((l.getD 0 evz).kind = 1) || !evOk (l.getD 0 evz)) = true → (l.length < 2 ∨ (l.getD 0 evz).kind ≠ 1 ∨ evOk (l.getD 0 evz) = false) := fun h => by
    simp only [Bool.or_eq_true, Bool.and_eq_true, Bool.or_eq_false_iff, Bool.and_eq_false_iff, decide_eq_true_eq, decide_eq_false_iff_not, Bool.not_eq_true', Bool.not_eq_false', beq_iff_eq, beq_eq_false_iff_ne, ne_eq, ge_iff_le, gt_iff_lt, Int.not_le, Int.not_lt, Int.ofNat_le, Int.ofNat_lt] at h
    rcases h with (h | h) | h
    · exact .inl (by omega)
    · exact .inr (.inl h)
    · exact .inr (.inr h)
  have hgx : (decide ((l.length : Int) < 2) || !decide ((l.getD 0 evz).kind = 1) || !evOk (l.getD 0 evz)) = false → (2 ≤ l.length ∧ (l.getD 0 evz).kind = 1 ∧ evOk (l.getD 0 evz) = true) := fun h => by
    simp only [Bool.or_eq_true, Bool.and_eq_true, Bool.or_eq_false_iff, Bool.and_eq_false_iff, decide_eq_true_eq, decide_eq_false_iff_not, Bool.not_eq_true', Bool.not_eq_false', beq_iff_eq, beq_eq_false_iff_ne, ne_eq, ge_iff_le, gt_iff_lt, Int.not_le, Int.not_lt, Int.ofNat_le, Int.ofNat_lt] at h
    exact ⟨by omega, h.1.2, h.2⟩
  refine Chk.mk (fun h => by simp at h; omega) fun _ => Chk.mk (fun h => by simp at h; omega) fun _ => ⟨fun h => ?_, fun h => Chk.mk (by have := hgx h; omega) fun _ => ?_⟩
  · rw [nested_bad (hbx (p := True) h)]
  have hg := hgx h
  have e1 : List.drop 1 (List.take l.length (List.map evc l)) = (l.drop 1).map evc := by rw [← List.map_take, List.take_length, ← List.map_drop]
  have hn : nested l = ndRun (l.drop 1) 0 [] := nested_good hg
  rw [e1, List.length_map]
  refine VLoops.of (ι := {x : Nat × Int × Stk // x.1 + 1 ≤ l.length ∧ x.2.2.length ≤ x.1 ∧ bnd x.2.2 x.1 ∧ ndRun (l.drop (x.1 + 1)) x.2.1 x.2.2 = nested l}) (fun x => ⟨[(0, .fs 8 (l.map evc)), (3, .ptr 0 0 0), (27, .fs 8 ((l.drop 1).map evc)), (28, .i .i64 ((l.drop 1).length : Nat)), (29, .i .i64 (x.1.1 : Nat))], [some (.blk false [.i .i64 x.1.2.1, .slc 1 0 x.1.2.2.length, .slc 2 0 x.1.2.2.length]), some (.row false 1 x.1.2.2.length (rowE intc 0 (x.1.2.2.map kdO))), some (.row false 1 x.1.2.2.length (rowE intc 0 (x.1.2.2.map mnO)))]⟩) (fun x => l.length - x.1.1) ⟨(0, 0, []), by simp only; omega, Nat.le_refl _, bnd_nil, hn.symm⟩ (Ent.nl (d := [some (.blk false [.i .i64 0, .slc 1 0 0, .slc 2 0 0])]) [(1, rowE intc 0 []), (1, rowE intc 0 [])] (by simp [nlE, nlV, Vg.look]) (by simp [nlC, nlO, nlL, nlV])) ?_
  rintro ⟨⟨i, d, o⟩, hi, ho, ht, hr⟩
  simp only [↓XC, XV, entry, isStr, tdOf, szOf, zeroOf, TD.isStruct, okCell, cellsOf, SO.isMap, SO.sz, SO.el, SO.n, SO.ro, mkCf, quietOp, opClass, okLeaf, spl, cellV, isU8T, isSlS, fillS, fillP, repl, SO.put, SV.mapH, frzV, frzVL, frzOk, frzOkL, lendOk, SV.bit, bitL, SV.plain, plainL, isE, mapHL, strip, stripL, gok, gokL, forall_const, implies_true, reduceIte, Nat.reduceAdd, Nat.reduceLT, Nat.reduceEqDiff, Nat.reduceBEq, Nat.reduceLeDiff, reduceCtorEq, Nat.reduceSub, Nat.reduceMul, Int.reduceToNat, Int.reduceLT, Int.reduceLE, TES, pe_EventOk_i_eq, XRE]
  simp only at hi ho ht hr
  have hlen : (l.drop 1).length = l.length - 1 := by simp
  refine ⟨fun hlt => Chk.mk (by omega) fun _ => Chk.mk (by simp only [inR]; omega) fun _ => ?_, fun hlt => ?_⟩
  · have hdr := drop_getD l (i + 1) evz (by omega)
    rw [getD_drop, Nat.add_comm 1 i]
    have hem := isEmpty_drop l (i + 2) (by omega)
    rw [hdr] at hr
    simp only [ndRun, hem] at hr
    generalize l.getD (i + 1) evz = e at *
    simp only [Int.natCast_add, Int.cast_ofNat_Int] at hr
    refine ⟨fun hb => ?_, fun hb => ⟨fun h10 => ?_, fun h10 => ⟨fun h9 => ?_, fun h9 => ?_⟩⟩⟩
    · rw [← hr]; simp at hb; simp [hb]
    · rw [← hr]; simp at hb; simp [hb, h10]
    · rw [← hr]; simp at hb; simp [hb, h9]
    · simp only [Bool.not_eq_false'] at hb
      rw [if_neg h10, if_neg h9, hb, Bool.true_and] at hr
      refine XCalls.reb (nst_event d o e.kind e.style e.flag e.text e.anchor e.tag e.pos e.code ⟨by omega, by have := bnd_tp ht; omega⟩) [0, 1, 2] (by simp [mapHL, SV.mapH, muL]) (by simp only [ctxMap, at_cons_zero, at_cons_succ, and_true, List.length_cons, List.length_nil]; exact ⟨by omega, soLe_blk (by simp [mapHL, SV.mapH, muL]), by omega, soLe_same fun _ => rfl, by omega, soLe_same fun _ => rfl⟩) (by decide) (by simp [newRw, SO.ro]) (by decide) (by simp [cleanC, upds, cleanO, noHL, noH, SO.ro]) ?_
      simp only [↓XC, XV, entry, isStr, tdOf, szOf, zeroOf, TD.isStruct, okCell, cellsOf, SO.isMap, SO.sz, SO.el, SO.n, SO.ro, mkCf, quietOp, opClass, okLeaf, spl, cellV, isU8T, isSlS, fillS, fillP, repl, SO.put, SV.mapH, frzV, frzVL, frzOk, frzOkL, lendOk, SV.bit, bitL, SV.plain, plainL, isE, mapHL, strip, stripL, gok, gokL, forall_const, implies_true, reduceIte, Nat.reduceAdd, Nat.reduceLT, Nat.reduceEqDiff, Nat.reduceBEq, Nat.reduceLeDiff, reduceCtorEq, Nat.reduceSub, Nat.reduceMul, Int.reduceToNat, Int.reduceLT, Int.reduceLE, TES, pe_EventOk_i_eq, XRE, XR, mergeC, upd, muL, List.getElem?_nil, List.drop_nil, Option.map_none, SO.mapH, maskE_cons, maskE_none, noH, noHL, List.getElem?_cons_zero, List.getElem?_cons_succ, List.drop_succ_cons, List.drop_zero, List.contains_cons, List.contains_nil]
      refine ⟨fun hf => ?_, fun hf => Chk.mk (by simp only [inR]; omega) fun _ => ?_⟩
      · simp only [Bool.not_eq_true'] at hf
        rw [← hr, hf]; rfl
      · simp only [Bool.not_eq_false'] at hf
        rw [hf, Bool.true_and] at hr
        refine ⟨⟨(i + 1, (ndEv d o e.kind).2.1, (ndEv d o e.kind).2.2), by simp only; omega, by have := ndEv_len (d := d) (o := o) (k := e.kind); simp only; omega, ndEv_bnd ht, hr⟩, by simp only; omega, ?_⟩
        simp only [Int.natCast_add, Int.natCast_one]
        refine (Ent.ren1 [0, 1, 2] (by decide) (by simp only [entCtx, at_cons_zero, at_cons_succ, and_true, true_and]; refine ⟨?_, ?_, ?_⟩; (exact soLe_blk (by simp [mapHL, SV.mapH, muL])); (exact soLe_same fun _ => rfl); (exact soLe_same fun _ => rfl)) (by simp [entEnv, Vg.look, SV.mapH, muL]))
  · rw [← hr, List.drop_of_length_le (by omega)]
    rfl
noncomputable def pe_Nested_i : PE := peR (fun (l : List Ev) => [.fs 8 (l.map evc)]) (fun (l : List Ev) => l.length ≤ 1048576) (fun (l : List Ev) => .b (nested l))
theorem pe_Nested_i_eq {l : List Ev} : pe_Nested_i [.fs 8 (l.map evc)] = some (l.length ≤ 1048576, .b (nested l)) := peR_eq (by rintro a b h; simp_all [evc_inj]) l
theorem pe_Nested_i_ok : PE1 Try.prog 47 pe_Nested_i := peR_ok (by rintro l hp; exact Nested_i l hp)
theorem Nested_s (l : List Ev) (hp : l.length ≤ 1048576 ∧ evW l ≤ 1048576) : PF Try.prog 44 [.fs 8 (l.map evc)] (.b (nested l)) := by
  refine ⟨rfl, rfl, FnK.of (cf := mkCf Try.prog te [(84, pe_EventOk_s)] 132 0 false (fun _ => false) (kp [(0, [0]), (1, [0, 3]), (2, [0, 3, 4]), (3, [0, 3, 4, 11, 12, 13]), (4, [0, 3, 4, 11, 12, 13, 14]), (5, [0, 3, 4, 5, 6, 11, 12, 13]), (6, [0, 3, 4, 5, 6, 7, 11, 12, 13]), (7, [0, 3, 4, 6, 7, 11, 12, 13, 33]), (8, [2]), (9, [0, 3, 4, 6, 7, 11, 12, 13, 36]), (10, [2]), (11, [0, 3, 4, 6, 7, 8, 11, 12, 13]), (12, [0, 3, 4, 6, 7, 8, 9, 11, 12, 13]), (13, [0, 3, 4, 6, 7, 8, 9, 11, 12, 13, 49]), (14, [0, 3, 11, 12, 13, 54]), (15, [2]), (16, [0, 3, 4, 11, 12, 13]), (17, [0, 3, 4, 6, 7, 8, 11, 12, 13, 55]), (18, [0, 3, 4, 6, 8, 11, 12, 13, 62]), (19, [2]), (20, [0, 3, 4, 6, 8, 11, 12, 13, 64]), (21, [0, 3, 4, 6, 11, 12, 13]), (22, [0, 3, 4, 6, 8, 11, 12, 13, 69]), (23, [0, 3, 4, 6, 11, 12, 13]), (24, [0, 3, 4, 6, 11, 12, 13, 78]), (25, [0, 3, 4, 6, 11, 12, 13]), (26, [0, 3, 4, 11, 12, 13, 84]), (27, [0, 3, 4, 11, 12, 13]), (28, [0, 3, 4, 6, 7, 8, 11, 12, 13, 88]), (29, [0, 3, 4, 8, 11, 12, 13, 108]), (30, [2]), (31, [0, 3, 4, 11, 12, 13]), (32, [0, 3, 4, 6, 7, 8, 11, 12, 13, 112]), (33, [0, 3, 11, 12, 13, 121]), (34, [2]), (35, [0, 3, 4, 11, 12, 13]), (36, [0, 3, 4, 7, 11, 12, 13, 122]), (37, [2]), (38, [0, 3, 4, 11, 12, 13]), (39, [2])]) [] []) (mkCf_ok te_ok (l := [(84, pe_EventOk_s)]) (⟨pe_EventOk_s_ok, trivial⟩) mixed_ok) Try.func44 rfl rfl rfl (by simp [mkCf]) (by simp [mkCf]) (rs := [.tmp 2]) rfl 100000 ?_⟩
  simp only [↓XC, XV, entry, isStr, tdOf, szOf, zeroOf, TD.isStruct, okCell, cellsOf, SO.isMap, SO.sz, SO.el, SO.n, SO.ro, mkCf, quietOp, opClass, okLeaf, spl, cellV, isU8T, isSlS, fillS, fillP, repl, SO.put, SV.mapH, frzV, frzVL, frzOk, frzOkL, lendOk, SV.bit, bitL, SV.plain, plainL, isE, mapHL, strip, stripL, gok, gokL, forall_const, implies_true, reduceIte, Nat.reduceAdd, Nat.reduceLT, Nat.reduceEqDiff, Nat.reduceBEq, Nat.reduceLeDiff, reduceCtorEq, Nat.reduceSub, Nat.reduceMul, Int.reduceToNat, Int.reduceLT, Int.reduceLE, TES, pe_EventOk_s_eq, XRE]
  refine VLoops.of (ι := {x : Nat × Int × Stk // x.1 ≤ l.length ∧ x.2.2.length ≤ x.1 ∧ bnd x.2.2 x.1 ∧ if x.1 = 0 then x.2.1 = 0 ∧ x.2.2 = [] else ndRun (l.drop x.1) x.2.1 x.2.2 = nested l}) (fun x => ⟨[(0, .fs 8 (l.map evc)), (3, .slc 0 0 x.1.2.2.length), (4, .i .i64 x.1.2.1), (11, .fs 8 (l.map evc)), (12, .i .i64 (l.length : Nat)), (13, .i .i64 (x.1.1 : Nat))], [some (.row false 1 x.1.2.2.length (rowE intc 0 (x.1.2.2.map spO)))]⟩) (fun x => l.length - x.1.1) ⟨(0, 0, []), Nat.zero_le _, Nat.le_refl _, bnd_nil, rfl, rfl⟩ (Ent.ren1 [0] (by decide) (by simp only [entCtx, at_cons_zero, at_cons_succ, and_true, true_and]; exact soLe_row fun j hj => absurd hj (Nat.not_lt_zero _)) (by simp [entEnv, Vg.look, SV.mapH, muL])) ?_
  rintro ⟨⟨i, d, o⟩, hi, ho, ht, hr⟩
  simp only [↓XC, XV, entry, isStr, tdOf, szOf, zeroOf, TD.isStruct, okCell, cellsOf, SO.isMap, SO.sz, SO.el, SO.n, SO.ro, mkCf, quietOp, opClass, okLeaf, spl, cellV, isU8T, isSlS, fillS, fillP, repl, SO.put, SV.mapH, frzV, frzVL, frzOk, frzOkL, lendOk, SV.bit, bitL, SV.plain, plainL, isE, mapHL, strip, stripL, gok, gokL, forall_const, implies_true, reduceIte, Nat.reduceAdd, Nat.reduceLT, Nat.reduceEqDiff, Nat.reduceBEq, Nat.reduceLeDiff, reduceCtorEq, Nat.reduceSub, Nat.reduceMul, Int.reduceToNat, Int.reduceLT, Int.reduceLE, TES, pe_EventOk_s_eq, XRE, XR]
  simp only at hi ho ht hr
  refine ⟨fun hlt => Chk.mk (by omega) fun _ => Chk.mk (by simp only [inR]; omega) fun _ => ?_, fun hlt => ?_⟩
  · have hw := evW_mem (l := l) (i := i) (by omega)
    unfold evsz at hw
    refine Chk.mk ⟨by omega, by omega, by omega⟩ fun _ => ?_
    obtain ⟨hn1, hn2⟩ := nested_at (by omega) hr
    generalize l.getD i evz = e at *
    obtain ⟨k, st, fl, x, a, g, p, c⟩ := e
    refine ⟨fun hb => by rw [hn1 hb], fun hb => ?_⟩
    obtain ⟨hk1, hk2, hk3, hnx⟩ := hn2 hb
    simp only at hk1 hk2 hk3 hnx
    by_cases e10 : k = 10
    · subst e10
      simp only [Int.reduceEq, eq_self, forall_const, true_implies, not_true_eq_false, not_false_eq_true, false_implies, implies_true, and_true, true_and, or_true, true_or, or_false, false_or, decide_true, decide_false, if_true, if_false, reduceIte, reduceCtorEq, ge_iff_le, Int.reduceLE, Bool.and_true, Bool.and_false, Bool.true_and, Bool.false_and, Bool.false_eq_true]
      have hn := hnx (by decide)
      simp only [Int.reduceEq, reduceIte, ndEv, or_true, true_or, or_false, false_or, decide_true, decide_false] at hn
      clear hnx hn2 hn1 hk3 hb
      rw [hn]
    by_cases e9 : k = 9
    · subst e9
      simp only [Int.reduceEq, eq_self, forall_const, true_implies, not_true_eq_false, not_false_eq_true, false_implies, implies_true, and_true, true_and, or_true, true_or, or_false, false_or, decide_true, decide_false, if_true, if_false, reduceIte, reduceCtorEq, ge_iff_le, Int.reduceLE, Bool.and_true, Bool.and_false, Bool.true_and, Bool.false_and, Bool.false_eq_true]
      have hn := hnx (by decide)
      simp only [Int.reduceEq, reduceIte, ndEv, or_true, true_or, or_false, false_or, decide_true, decide_false] at hn
      clear hnx hn2 hn1 hk3 hb
      exact Chk.mk (by simp only [inR]; omega) fun _ => by rw [hn]
    by_cases e2 : k = 2
    · subst e2
      simp only [Int.reduceEq, eq_self, forall_const, true_implies, not_true_eq_false, not_false_eq_true, false_implies, implies_true, and_true, true_and, or_true, true_or, or_false, false_or, decide_true, decide_false, if_true, if_false, reduceIte, reduceCtorEq, ge_iff_le, Int.reduceLE, Bool.and_true, Bool.and_false, Bool.true_and, Bool.false_and, Bool.false_eq_true]
      have hn := hnx (by decide)
      simp only [Int.reduceEq, reduceIte, ndEv, or_true, true_or, or_false, false_or, decide_true, decide_false] at hn
      clear hnx hn2 hn1 hk3 hb
      refine Chk.mk (by simp only [inR]; omega) fun _ => ⟨fun hf => ?_, fun hf => Chk.mk (by simp only [inR]; omega) fun _ => ?_⟩
      · rw [hn]; simp at hf; simp [hf]
      · simp only [Bool.not_eq_false', decide_eq_true_eq] at hf
        simp only [hf, decide_true, Bool.true_and] at hn
        refine ⟨⟨(i + 1, 1, o), by simp only; omega, by simp only; omega, bnd_mono ht (Nat.le_succ _), by simp only [Nat.succ_ne_zero, if_false]; exact hn.symm⟩, by simp only; omega, ?_⟩
        simp only [Int.natCast_add, Int.natCast_one]
        refine (Ent.ren1 [0] (by decide) (by simp only [entCtx, at_cons_zero, at_cons_succ, and_true, true_and]; exact soLe_same fun _ => rfl) (by simp [entEnv, Vg.look, SV.mapH, muL, incr_length, pop_length]))
    by_cases e3 : k = 3
    · subst e3
      simp only [Int.reduceEq, eq_self, forall_const, true_implies, not_true_eq_false, not_false_eq_true, false_implies, implies_true, and_true, true_and, or_true, true_or, or_false, false_or, decide_true, decide_false, if_true, if_false, reduceIte, reduceCtorEq, ge_iff_le, Int.reduceLE, Bool.and_true, Bool.and_false, Bool.true_and, Bool.false_and, Bool.false_eq_true]
      have hn := hnx (by decide)
      simp only [Int.reduceEq, reduceIte, ndEv, or_true, true_or, or_false, false_or, decide_true, decide_false] at hn
      clear hnx hn2 hn1 hk3 hb
      have hB := ndEv_bnd (d := d) (k := 3) ht
      simp only [ndEv, Int.reduceEq, reduceIte, or_true, true_or, or_false, false_or, decide_true, decide_false] at hB
      refine Chk.mk (by simp only [inR]; omega) fun _ => ⟨fun hf => ?_, fun hf => ⟨fun h0 => ?_, fun h0 => ?_⟩⟩
      · simp at hf
        obtain rfl : o = [] := List.length_eq_zero_iff.1 (by omega)
        rw [hn]
        simp [ndNode, hf]
      · obtain rfl : o = [] := List.length_eq_zero_iff.1 (by omega)
        obtain rfl : d = 1 := by simp at hf; omega
        simp only [ndNode, if_true, decide_true, Bool.true_and] at hn hB
        refine ⟨litEl_ok rfl rfl, Chk.mk ⟨Nat.le_refl _, by omega⟩ fun _ => Chk.mk (by simp only [inR]; omega) fun _ => ?_⟩
        refine ⟨⟨(i + 1, 2, [] ++ [(false, 0)]), by simp only; omega, by simp, hB, by simp only [Nat.succ_ne_zero, if_false]; exact hn.symm⟩, by simp only; omega, ?_⟩
        simp only [Int.natCast_add, Int.natCast_one]
        refine (Ent.ren1 [3] (by decide) (by simp only [entCtx, at_cons_zero, at_cons_succ, and_true, true_and]; exact soLe_pushM (fun _ => rfl) (by simp [incr_length]) (fun j hj => rfl) rfl rfl) (by simp [entEnv, Vg.look, SV.mapH, muL, incr_length, pop_length]))
      · have hl : 0 < o.length := by omega
        rw [ndNode_cons hl] at hn hB
        simp only [Bool.true_and] at hn
        simp only [show ((o.length : Int) - 1).toNat = o.length - 1 by omega]
        have hb1 := ht (o.length - 1)
        have hsp : (o.map spO).getD (o.length - 1) 0 ≤ 1048576 := by rw [sp_top hl]; have := bnd_tp ht; unfold spO; split <;> omega
        refine Chk.mk (by omega) fun _ => Chk.mk (by omega) fun _ => ⟨fun hm => Chk.mk (by omega) fun _ => Chk.mk (by omega) fun _ => Chk.mk (by simp only [inR]; omega) fun _ => Chk.mk (by omega) fun _ => Chk.mk (by omega) fun _ => ⟨litEl_ok rfl rfl, Chk.mk ⟨Nat.le_refl _, by omega⟩ fun _ => Chk.mk (by simp only [inR]; omega) fun _ => ?_⟩, fun hm => ⟨litEl_ok rfl rfl, Chk.mk ⟨Nat.le_refl _, by omega⟩ fun _ => Chk.mk (by simp only [inR]; omega) fun _ => ?_⟩⟩
        · refine ⟨⟨(i + 1, d, incr o ++ [(false, 0)]), by simp only; omega, by simp [incr_length]; omega, hB, by simp only [Nat.succ_ne_zero, if_false]; exact hn.symm⟩, by simp only; omega, ?_⟩
          simp only [Int.natCast_add, Int.natCast_one]
          refine (Ent.ren1 [3] (by decide) (by simp only [entCtx, at_cons_zero, at_cons_succ, and_true, true_and]; exact soLe_pushM (fun _ => rfl) (by simp [incr_length]) (fun j hj => by simp only [rowE, sp_incr_up hm hl]; split <;> rfl) rfl rfl) (by simp [entEnv, Vg.look, SV.mapH, muL, incr_length, pop_length]))
        · refine ⟨⟨(i + 1, d, incr o ++ [(false, 0)]), by simp only; omega, by simp [incr_length]; omega, hB, by simp only [Nat.succ_ne_zero, if_false]; exact hn.symm⟩, by simp only; omega, ?_⟩
          simp only [Int.natCast_add, Int.natCast_one]
          refine (Ent.ren1 [3] (by decide) (by simp only [entCtx, at_cons_zero, at_cons_succ, and_true, true_and]; exact soLe_pushM (fun _ => rfl) (by simp [incr_length]) (fun j hj => by rw [sp_incr_no hm hl]; rfl) rfl rfl) (by simp [entEnv, Vg.look, SV.mapH, muL, incr_length, pop_length]))
    by_cases e4 : k = 4
    · subst e4
      simp only [Int.reduceEq, eq_self, forall_const, true_implies, not_true_eq_false, not_false_eq_true, false_implies, implies_true, and_true, true_and, or_true, true_or, or_false, false_or, decide_true, decide_false, if_true, if_false, reduceIte, reduceCtorEq, ge_iff_le, Int.reduceLE, Bool.and_true, Bool.and_false, Bool.true_and, Bool.false_and, Bool.false_eq_true]
      have hn := hnx (by decide)
      simp only [Int.reduceEq, reduceIte, ndEv, or_true, true_or, or_false, false_or, decide_true, decide_false] at hn
      clear hnx hn2 hn1 hk3 hb
      have hB := ndEv_bnd (d := d) (k := 4) ht
      simp only [ndEv, Int.reduceEq, reduceIte, or_true, true_or, or_false, false_or, decide_true, decide_false] at hB
      refine Chk.mk (by simp only [inR]; omega) fun _ => ⟨fun hf => ?_, fun hf => ⟨fun h0 => ?_, fun h0 => ?_⟩⟩
      · simp at hf
        obtain rfl : o = [] := List.length_eq_zero_iff.1 (by omega)
        rw [hn]
        simp [ndNode, hf]
      · obtain rfl : o = [] := List.length_eq_zero_iff.1 (by omega)
        obtain rfl : d = 1 := by simp at hf; omega
        simp only [ndNode, if_true, decide_true, Bool.true_and] at hn hB
        refine ⟨litEl_ok rfl rfl, Chk.mk ⟨Nat.le_refl _, by omega⟩ fun _ => Chk.mk (by simp only [inR]; omega) fun _ => ?_⟩
        refine ⟨⟨(i + 1, 2, [] ++ [(true, 0)]), by simp only; omega, by simp, hB, by simp only [Nat.succ_ne_zero, if_false]; exact hn.symm⟩, by simp only; omega, ?_⟩
        simp only [Int.natCast_add, Int.natCast_one]
        refine (Ent.ren1 [3] (by decide) (by simp only [entCtx, at_cons_zero, at_cons_succ, and_true, true_and]; exact soLe_pushM (fun _ => rfl) (by simp [incr_length]) (fun j hj => rfl) rfl rfl) (by simp [entEnv, Vg.look, SV.mapH, muL, incr_length, pop_length]))
      · have hl : 0 < o.length := by omega
        rw [ndNode_cons hl] at hn hB
        simp only [Bool.true_and] at hn
        simp only [show ((o.length : Int) - 1).toNat = o.length - 1 by omega]
        have hb1 := ht (o.length - 1)
        have hsp : (o.map spO).getD (o.length - 1) 0 ≤ 1048576 := by rw [sp_top hl]; have := bnd_tp ht; unfold spO; split <;> omega
        refine Chk.mk (by omega) fun _ => Chk.mk (by omega) fun _ => ⟨fun hm => Chk.mk (by omega) fun _ => Chk.mk (by omega) fun _ => Chk.mk (by simp only [inR]; omega) fun _ => Chk.mk (by omega) fun _ => Chk.mk (by omega) fun _ => ⟨litEl_ok rfl rfl, Chk.mk ⟨Nat.le_refl _, by omega⟩ fun _ => Chk.mk (by simp only [inR]; omega) fun _ => ?_⟩, fun hm => ⟨litEl_ok rfl rfl, Chk.mk ⟨Nat.le_refl _, by omega⟩ fun _ => Chk.mk (by simp only [inR]; omega) fun _ => ?_⟩⟩
        · refine ⟨⟨(i + 1, d, incr o ++ [(true, 0)]), by simp only; omega, by simp [incr_length]; omega, hB, by simp only [Nat.succ_ne_zero, if_false]; exact hn.symm⟩, by simp only; omega, ?_⟩
          simp only [Int.natCast_add, Int.natCast_one]
          refine (Ent.ren1 [3] (by decide) (by simp only [entCtx, at_cons_zero, at_cons_succ, and_true, true_and]; exact soLe_pushM (fun _ => rfl) (by simp [incr_length]) (fun j hj => by simp only [rowE, sp_incr_up hm hl]; split <;> rfl) rfl rfl) (by simp [entEnv, Vg.look, SV.mapH, muL, incr_length, pop_length]))
        · refine ⟨⟨(i + 1, d, incr o ++ [(true, 0)]), by simp only; omega, by simp [incr_length]; omega, hB, by simp only [Nat.succ_ne_zero, if_false]; exact hn.symm⟩, by simp only; omega, ?_⟩
          simp only [Int.natCast_add, Int.natCast_one]
          refine (Ent.ren1 [3] (by decide) (by simp only [entCtx, at_cons_zero, at_cons_succ, and_true, true_and]; exact soLe_pushM (fun _ => rfl) (by simp [incr_length]) (fun j hj => by rw [sp_incr_no hm hl]; rfl) rfl rfl) (by simp [entEnv, Vg.look, SV.mapH, muL, incr_length, pop_length]))
    by_cases e5 : k = 5
    · subst e5
      simp only [Int.reduceEq, eq_self, forall_const, true_implies, not_true_eq_false, not_false_eq_true, false_implies, implies_true, and_true, true_and, or_true, true_or, or_false, false_or, decide_true, decide_false, if_true, if_false, reduceIte, reduceCtorEq, ge_iff_le, Int.reduceLE, Bool.and_true, Bool.and_false, Bool.true_and, Bool.false_and, Bool.false_eq_true]
      have hn := hnx (by decide)
      simp only [Int.reduceEq, reduceIte, ndEv, or_true, true_or, or_false, false_or, decide_true, decide_false] at hn
      clear hnx hn2 hn1 hk3 hb
      have hB := ndEv_bnd (d := d) (k := 5) ht
      simp only [ndEv, Int.reduceEq, reduceIte, or_true, true_or, or_false, false_or, decide_true, decide_false] at hB
      refine Chk.mk (by simp only [inR]; omega) fun _ => ⟨fun hf => ?_, fun hf => ⟨fun h0 => ?_, fun h0 => ?_⟩⟩
      · simp at hf
        obtain rfl : o = [] := List.length_eq_zero_iff.1 (by omega)
        rw [hn]
        simp [ndNode, hf]
      · obtain rfl : o = [] := List.length_eq_zero_iff.1 (by omega)
        obtain rfl : d = 1 := by simp at hf; omega
        simp only [ndNode, if_true, decide_true, Bool.true_and] at hn hB
        refine Chk.mk (by simp only [inR]; omega) fun _ => ?_
        refine ⟨⟨(i + 1, 2, []), by simp only; omega, by simp, hB, by simp only [Nat.succ_ne_zero, if_false]; exact hn.symm⟩, by simp only; omega, ?_⟩
        simp only [Int.natCast_add, Int.natCast_one]
        refine (Ent.ren1 [0] (by decide) (by simp only [entCtx, at_cons_zero, at_cons_succ, and_true, true_and]; exact soLe_same fun _ => rfl) (by simp [entEnv, Vg.look, SV.mapH, muL, incr_length, pop_length]))
      · have hl : 0 < o.length := by omega
        rw [ndNode_cons hl] at hn hB
        simp only [Bool.true_and] at hn
        simp only [show ((o.length : Int) - 1).toNat = o.length - 1 by omega]
        have hb1 := ht (o.length - 1)
        have hsp : (o.map spO).getD (o.length - 1) 0 ≤ 1048576 := by rw [sp_top hl]; have := bnd_tp ht; unfold spO; split <;> omega
        refine Chk.mk (by omega) fun _ => Chk.mk (by omega) fun _ => ⟨fun hm => Chk.mk (by omega) fun _ => Chk.mk (by omega) fun _ => Chk.mk (by simp only [inR]; omega) fun _ => Chk.mk (by omega) fun _ => Chk.mk (by omega) fun _ => Chk.mk (by simp only [inR]; omega) fun _ => ?_, fun hm => Chk.mk (by simp only [inR]; omega) fun _ => ?_⟩
        · refine ⟨⟨(i + 1, d, incr o), by simp only; omega, by simp [incr_length]; omega, hB, by simp only [Nat.succ_ne_zero, if_false]; exact hn.symm⟩, by simp only; omega, ?_⟩
          simp only [Int.natCast_add, Int.natCast_one]
          refine (Ent.ren1 [0] (by decide) (by simp only [entCtx, at_cons_zero, at_cons_succ, and_true, true_and]; rw [incr_length]; exact soLe_row fun j hj => by simp only [rowE, sp_incr_up hm hl]; split <;> rfl) (by simp [entEnv, Vg.look, SV.mapH, muL, incr_length, pop_length]))
        · refine ⟨⟨(i + 1, d, incr o), by simp only; omega, by simp [incr_length]; omega, hB, by simp only [Nat.succ_ne_zero, if_false]; exact hn.symm⟩, by simp only; omega, ?_⟩
          simp only [Int.natCast_add, Int.natCast_one]
          refine (Ent.ren1 [0] (by decide) (by simp only [entCtx, at_cons_zero, at_cons_succ, and_true, true_and]; rw [incr_length]; exact soLe_row fun j hj => by rw [sp_incr_no hm hl]; rfl) (by simp [entEnv, Vg.look, SV.mapH, muL, incr_length, pop_length]))
    by_cases e6 : k = 6
    · subst e6
      simp only [Int.reduceEq, eq_self, forall_const, true_implies, not_true_eq_false, not_false_eq_true, false_implies, implies_true, and_true, true_and, or_true, true_or, or_false, false_or, decide_true, decide_false, if_true, if_false, reduceIte, reduceCtorEq, ge_iff_le, Int.reduceLE, Bool.and_true, Bool.and_false, Bool.true_and, Bool.false_and, Bool.false_eq_true]
      have hn := hnx (by decide)
      simp only [Int.reduceEq, reduceIte, ndEv, or_true, true_or, or_false, false_or, decide_true, decide_false] at hn
      clear hnx hn2 hn1 hk3 hb
      have hB := ndEv_bnd (d := d) (k := 6) ht
      simp only [ndEv, Int.reduceEq, reduceIte, or_true, true_or, or_false, false_or, decide_true, decide_false] at hB
      refine Chk.mk (by simp only [inR]; omega) fun _ => ⟨fun hf => ?_, fun hf => ⟨fun h0 => ?_, fun h0 => ?_⟩⟩
      · simp at hf
        obtain rfl : o = [] := List.length_eq_zero_iff.1 (by omega)
        rw [hn]
        simp [ndNode, hf]
      · obtain rfl : o = [] := List.length_eq_zero_iff.1 (by omega)
        obtain rfl : d = 1 := by simp at hf; omega
        simp only [ndNode, if_true, decide_true, Bool.true_and] at hn hB
        refine Chk.mk (by simp only [inR]; omega) fun _ => ?_
        refine ⟨⟨(i + 1, 2, []), by simp only; omega, by simp, hB, by simp only [Nat.succ_ne_zero, if_false]; exact hn.symm⟩, by simp only; omega, ?_⟩
        simp only [Int.natCast_add, Int.natCast_one]
        refine (Ent.ren1 [0] (by decide) (by simp only [entCtx, at_cons_zero, at_cons_succ, and_true, true_and]; exact soLe_same fun _ => rfl) (by simp [entEnv, Vg.look, SV.mapH, muL, incr_length, pop_length]))
      · have hl : 0 < o.length := by omega
        rw [ndNode_cons hl] at hn hB
        simp only [Bool.true_and] at hn
        simp only [show ((o.length : Int) - 1).toNat = o.length - 1 by omega]
        have hb1 := ht (o.length - 1)
        have hsp : (o.map spO).getD (o.length - 1) 0 ≤ 1048576 := by rw [sp_top hl]; have := bnd_tp ht; unfold spO; split <;> omega
        refine Chk.mk (by omega) fun _ => Chk.mk (by omega) fun _ => ⟨fun hm => Chk.mk (by omega) fun _ => Chk.mk (by omega) fun _ => Chk.mk (by simp only [inR]; omega) fun _ => Chk.mk (by omega) fun _ => Chk.mk (by omega) fun _ => Chk.mk (by simp only [inR]; omega) fun _ => ?_, fun hm => Chk.mk (by simp only [inR]; omega) fun _ => ?_⟩
        · refine ⟨⟨(i + 1, d, incr o), by simp only; omega, by simp [incr_length]; omega, hB, by simp only [Nat.succ_ne_zero, if_false]; exact hn.symm⟩, by simp only; omega, ?_⟩
          simp only [Int.natCast_add, Int.natCast_one]
          refine (Ent.ren1 [0] (by decide) (by simp only [entCtx, at_cons_zero, at_cons_succ, and_true, true_and]; rw [incr_length]; exact soLe_row fun j hj => by simp only [rowE, sp_incr_up hm hl]; split <;> rfl) (by simp [entEnv, Vg.look, SV.mapH, muL, incr_length, pop_length]))
        · refine ⟨⟨(i + 1, d, incr o), by simp only; omega, by simp [incr_length]; omega, hB, by simp only [Nat.succ_ne_zero, if_false]; exact hn.symm⟩, by simp only; omega, ?_⟩
          simp only [Int.natCast_add, Int.natCast_one]
          refine (Ent.ren1 [0] (by decide) (by simp only [entCtx, at_cons_zero, at_cons_succ, and_true, true_and]; rw [incr_length]; exact soLe_row fun j hj => by rw [sp_incr_no hm hl]; rfl) (by simp [entEnv, Vg.look, SV.mapH, muL, incr_length, pop_length]))
    by_cases e7 : k = 7
    · subst e7
      simp only [Int.reduceEq, eq_self, forall_const, true_implies, not_true_eq_false, not_false_eq_true, false_implies, implies_true, and_true, true_and, or_true, true_or, or_false, false_or, decide_true, decide_false, if_true, if_false, reduceIte, reduceCtorEq, ge_iff_le, Int.reduceLE, Bool.and_true, Bool.and_false, Bool.true_and, Bool.false_and, Bool.false_eq_true]
      have hn := hnx (by decide)
      simp only [Int.reduceEq, reduceIte, ndEv, or_true, true_or, or_false, false_or, decide_true, decide_false] at hn
      clear hnx hn2 hn1 hk3 hb
      refine Chk.mk (by simp only [inR]; omega) fun _ => ?_
      simp only [show ((o.length : Int) - 1).toNat = o.length - 1 by omega]
      refine Chk.mk (fun h => by simp at h; omega) fun _ => Chk.mk (fun h => by simp at h; omega) fun _ => Chk.mk (fun h => by simp at h; omega) fun _ => Chk.mk (fun h => by simp at h; omega) fun _ => Chk.mk trivial fun _ => ⟨fun hf => ?_, fun hf => ?_⟩
      · have hb : ndEnds o = false := by
          by_cases h0 : o.length = 0
          · exact ndEnds_bad (.inl h0)
          · rw [ndEnds_sp (by omega)]
            simp only [show ¬ ((o.length : Int) - 1 < 0) by omega, decide_false, Bool.false_or] at hf
            rw [hf]; rfl
        rw [hn, hb]; rfl
      · have hl : 0 < o.length := by simp at hf; omega
        have hb : ndEnds o = true := by
          rw [ndEnds_sp hl]
          simp only [show ¬ ((o.length : Int) - 1 < 0) by omega, decide_false, Bool.false_or] at hf
          rw [hf]; rfl
        rw [hb] at hn
        simp only [if_true, Bool.true_and] at hn
        refine Chk.mk (by omega) fun _ => Chk.mk (by simp only [inR]; omega) fun _ => ?_
        refine ⟨⟨(i + 1, d, pop o), by simp only; omega, by simp only [pop_length]; omega, bnd_mono (bnd_pop ht) (Nat.le_succ _), by simp only [Nat.succ_ne_zero, if_false]; exact hn.symm⟩, by simp only; omega, ?_⟩
        simp only [Int.natCast_add, Int.natCast_one]
        refine (Ent.ren1 [0] (by decide) (by simp only [entCtx, at_cons_zero, at_cons_succ, and_true, true_and]; exact soLe_row' (by rw [pop_length]; omega) fun j hj => by simp only [rowE, pop_row _ hj] <;> rfl) (by simp [entEnv, Vg.look, SV.mapH, muL, incr_length, pop_length]))
    by_cases e8 : k = 8
    · subst e8
      simp only [Int.reduceEq, eq_self, forall_const, true_implies, not_true_eq_false, not_false_eq_true, false_implies, implies_true, and_true, true_and, or_true, true_or, or_false, false_or, decide_true, decide_false, if_true, if_false, reduceIte, reduceCtorEq, ge_iff_le, Int.reduceLE, Bool.and_true, Bool.and_false, Bool.true_and, Bool.false_and, Bool.false_eq_true]
      have hn := hnx (by decide)
      simp only [Int.reduceEq, reduceIte, ndEv, or_true, true_or, or_false, false_or, decide_true, decide_false] at hn
      clear hnx hn2 hn1 hk3 hb
      refine Chk.mk (by simp only [inR]; omega) fun _ => ⟨fun hf => ?_, fun hf => Chk.mk (by simp only [inR]; omega) fun _ => ?_⟩
      · rw [hn]; simp at hf; rcases hf with hf | hf
        · simp [hf]
        · have : o ≠ [] := List.length_pos_iff.1 (by omega)
          simp [this]
      · simp at hf
        obtain rfl : o = [] := List.length_eq_zero_iff.1 (by omega)
        simp [hf.1] at hn
        refine ⟨⟨(i + 1, 0, []), by simp only; omega, by simp, bnd_nil, by simp only [Nat.succ_ne_zero, if_false]; exact hn.symm⟩, by simp only; omega, ?_⟩
        simp only [Int.natCast_add, Int.natCast_one]
        refine (Ent.ren1 [0] (by decide) (by simp only [entCtx, at_cons_zero, at_cons_succ, and_true, true_and]; exact soLe_same fun _ => rfl) (by simp [entEnv, Vg.look, SV.mapH, muL, incr_length, pop_length]))
    obtain rfl : k = 1 := by omega
    have hn := hk3 rfl
    clear hnx hn2 hn1 hk3 hb
    simp only [Int.reduceEq, eq_self, forall_const, true_implies, not_true_eq_false, not_false_eq_true, false_implies, implies_true, and_true, true_and, or_true, true_or, or_false, false_or, decide_true, decide_false, if_true, if_false, reduceIte, reduceCtorEq, ge_iff_le, Int.reduceLE, Bool.and_true, Bool.and_false, Bool.true_and, Bool.false_and, Bool.false_eq_true]
    refine Chk.mk (by simp only [inR]; omega) fun _ => Chk.mk (by simp only [inR]; omega) fun _ => ?_
    refine ⟨⟨(i + 1, d, o), by simp only; omega, by simp only; omega, bnd_mono ht (Nat.le_succ _), by simp only [Nat.succ_ne_zero, if_false]; exact hn⟩, by simp only; omega, ?_⟩
    simp only [Int.natCast_add, Int.natCast_one]
    refine (Ent.ren1 [0] (by decide) (by simp only [entCtx, at_cons_zero, at_cons_succ, and_true, true_and]; exact soLe_same fun _ => rfl) (by simp [entEnv, Vg.look, SV.mapH, muL, incr_length, pop_length]))
  · have hil : i = l.length := by omega
    subst hil
    split at hr
    · rename_i h0
      obtain rfl : l = [] := List.length_eq_zero_iff.1 h0
      rfl
    · rw [← hr, List.drop_length]; rfl
noncomputable def pe_Nested_s : PE := peR (fun (l : List Ev) => [.fs 8 (l.map evc)]) (fun (l : List Ev) => l.length ≤ 1048576 ∧ evW l ≤ 1048576) (fun (l : List Ev) => .b (nested l))
theorem pe_Nested_s_eq {l : List Ev} : pe_Nested_s [.fs 8 (l.map evc)] = some (l.length ≤ 1048576 ∧ evW l ≤ 1048576, .b (nested l)) := peR_eq (by rintro a b h; simp_all [evc_inj]) l
theorem pe_Nested_s_ok : PE1 Try.prog 44 pe_Nested_s := peR_ok (by rintro l hp; exact Nested_s l hp)
end Go.T15
