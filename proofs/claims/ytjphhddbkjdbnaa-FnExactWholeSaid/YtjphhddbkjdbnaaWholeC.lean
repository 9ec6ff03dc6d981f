/- The law FnExactWhole returns true for every input; no conditions. -/
import Derived.Test.YtjphhddbkjdbnaaWholeB
import Derived.Test.YtjphhddbkjdbnaaBaseD
import Derived.Test.YtjphhddbkjdbnaaBaseE
import Derived.Lib.SmallJoins
import Derived.Carry
import Derived.Test.YtjphhddbkjdbnaaRows
namespace Go.Proofs.Ytjphhddbkjdbnaa.fnExactWhole
open Go.ChangeMaps (open_string shut_string)
open Go.ChangeShapes Go.WideShapes Go.ChangeAt Go.RowKit Go.Vg 
set_option linter.unusedVariables false
set_option linter.unusedSimpArgs false
theorem own : ownKnob Try.prog.godebug = none := by kernel_rfl
theorem laidOut : laidOutB Try.prog = true := by kernel_rfl
theorem open_evs {y : SV} (h : fitsV Go.TT.te 4 22 y) : ∃ l : List Go.Pl.Ev, y = .fs 8 (l.map evc) ∧ (l.length ≤ 9223372036854775807 ∧ (∀ i, i < l.length → (l.getD i Go.Pl.evz).text.length ≤ 9223372036854775807 ∧ (l.getD i Go.Pl.evz).anchor.length ≤ 9223372036854775807 ∧ (l.getD i Go.Pl.evz).tag.length ≤ 9223372036854775807)) := by
  simp only [fitsV, tdOf, szOf, fits, Go.TT.te_22, Go.TT.te_53, TD.isStruct, Bool.false_eq_true, if_false] at h
  obtain ⟨l, e, hl, hy⟩ := h
  cases e
  obtain ⟨es, rfl, he⟩ := exists_map (f := evc) (p := fun e => e.text.length ≤ 9223372036854775807 ∧ e.anchor.length ≤ 9223372036854775807 ∧ e.tag.length ≤ 9223372036854775807) (l := l) fun y hy' => by
    obtain ⟨h1, h2⟩ := hy y hy'
    match y, h1 with
    | [a0, a1, a2, a3, a4, a5, a6, a7], _ =>
    simp [-Bool.exists_bool, Go.TT.te_3, Go.TT.te_4, Go.TT.te_9] at h2
    obtain ⟨⟨n0, rfl, _⟩, ⟨n1, rfl, _⟩, ⟨n2, rfl⟩, ⟨n3, rfl, k3⟩, ⟨n4, rfl, k4⟩, ⟨n5, rfl, k5⟩, ⟨n6, rfl, _⟩, ⟨n7, rfl, _⟩⟩ := h2
    exact ⟨⟨n0, n1, n2, n3, n4, n5, n6, n7⟩, ⟨k3, k4, k5⟩, rfl⟩
  refine ⟨es, rfl, by simpa using hl, fun i hi => ?_⟩
  have := he (es.getD i Go.Pl.evz) (by simp [List.getD, hi])
  exact this
set_option maxRecDepth 100000 in
theorem lifted (os : Os) (started : os.Started) (H : Type) (enc : TypeId × Value → H) :
    ReturnsInHanded {} Try.checked os 7 .any (Rows.fnExactWholeSpec.pre6 enc Try.prog Try.f7 Rows.fnExactWholeRow.domain false) (Rows.fnExactWholeSpec.post enc Try.prog Try.f7 false true false false) := by
  refine returnsInHanded_of_change_sized (C := Try.checked) own started (by kernel_rfl) Try.func7
    (ChangeSpec.witness6 (enc := enc) (C := Try.checked) false ⟨#[], #[.slice none 0 0], []⟩ 8 (by kernel_rfl) (by kernel_rfl) (by kernel_rfl) (by kernel_rfl)) ?_
  intro W base args ds gs before hval0 hW hcnd hsz0 _
  have hval : ∀ (j : Nat) t v, Try.f7.params[j]? = some t → args[j]? = some v → Value.okWide Try.prog W .any base t v := hval0
  have hW' := hW
  obtain ⟨p, q, hA0, hV, rfl, hfz, hnd⟩ := hW
  have hA : DataW.TrodAll enc Try.prog W 0 (fun _ => true) true Try.f7.params.toList args.toList ds p := hA0
  rw [Try.params7] at hA hval
  obtain ⟨v0, vs0, d0, ds0, p0, q0, hargs, rfl, rfl, h0, r0⟩ := trodAll_cons hA
  obtain ⟨rfl, rfl, rfl⟩ := trodAll_nil r0
  obtain rfl : args = #[v0] := by cases args; simp_all
  obtain ⟨rfl, rfl⟩ := trodVars_none hV
  have lt0 : ∀ x ∈ p0, x.block < W.heap.size := by obtain ⟨m, hm⟩ := h0; exact DataW.trod_lt m _ _ _ hm
  obtain ⟨y0, f0, e0⟩ := trod_param Go.TT.te_ok (n := 4) (by decide +kernel) ((hval 0 22 v0 rfl rfl)) h0
  obtain ⟨a0, rfl, b0⟩ := open_evs f0
  clear hA0 hval0 hsz0
  refine (law_pure (T58.law_Whole a0 b0) (w := W) (relL_one e0)).mono fun e W' ⟨he, bel⟩ => ?_
  subst he
  exact ⟨_, rfl, _, _, _, [], _, [], hW', trodAll_mk1 (shut_bool Try.underlying4 _), (trodAll_cons_mk (Below.trod laidOut (by kernel_rfl) (of_decide_eq_true (by kernel_rfl)) h0 bel lt0) trodAll_mk0), rfl, bel.frame _, fun h => by cases h⟩
theorem over : Rows.fnExactWholeRow.holds Try.pinned (OpenSpec.ofChange Rows.fnExactWholeSpec) :=
  OpenClaim.holds_of_wide 7 Try.f7 rfl rfl rfl rfl rfl rfl rfl ⟨rfl, rfl, rfl, rfl, rfl⟩ rfl rfl rfl rfl rfl (by kernel_rfl) Try.func7 (by kernel_rfl)
    (of_decide_eq_true (by kernel_rfl)) (by unfold Func.isWrapper; first | (rw [if_pos (by decide +kernel)]; kernel_rfl) | (rw [if_neg (by decide +kernel)]; exact ⟨rfl, rfl⟩))
    (fun os started H enc _ => lifted os started H enc)
theorem proved : Rows.FnExactWholeSaid := over
#print axioms proved
end Go.Proofs.Ytjphhddbkjdbnaa.fnExactWhole
namespace Go.Proofs.Ytjphhddbkjdbnaa
theorem fnExactWhole_holds : Rows.FnExactWholeSaid := fnExactWhole.proved
end Go.Proofs.Ytjphhddbkjdbnaa
