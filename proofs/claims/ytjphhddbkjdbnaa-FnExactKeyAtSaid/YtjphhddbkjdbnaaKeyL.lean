/- The law FnExactKeyAt returns true for every input; no conditions. -/
import Derived.Test.YtjphhddbkjdbnaaKeyG
import Derived.Test.YtjphhddbkjdbnaaBaseD
import Derived.Test.YtjphhddbkjdbnaaBaseE
import Derived.Lib.SmallJoins
import Derived.Carry
import Derived.Test.YtjphhddbkjdbnaaRows
namespace Go.Proofs.Ytjphhddbkjdbnaa.fnExactKeyAt
open Go.ChangeMaps (open_string shut_string)
open Go.ChangeShapes Go.WideShapes Go.ChangeAt Go.RowKit Go.Vg 
set_option linter.unusedVariables false
set_option linter.unusedSimpArgs false
theorem own : ownKnob Try.prog.godebug = none := by kernel_rfl
theorem laidOut : laidOutB Try.prog = true := by kernel_rfl
theorem open_str {y : SV} (h : fitsV Go.TT.te 4 9 y) : ∃ l : List UInt8, y = .s l ∧ l.length ≤ 9223372036854775807 := by
  simp only [fitsV, tdOf, fits, Go.TT.te_9, TD.isStruct, Bool.false_eq_true, if_false] at h
  obtain ⟨m, e, hm⟩ := h
  cases e
  exact ⟨m, rfl, hm⟩
theorem open_i {y : SV} (h : fitsV Go.TT.te 4 3 y) : ∃ m : Int, y = .i .i64 m ∧ inR .i64 m := by
  simp only [fitsV, tdOf, fits, Go.TT.te_3, TD.isStruct, Bool.false_eq_true, if_false] at h
  obtain ⟨m, e, hm⟩ := h
  cases e
  exact ⟨m, rfl, hm⟩
set_option maxRecDepth 100000 in
theorem lifted (os : Os) (started : os.Started) (H : Type) (enc : TypeId × Value → H) :
    ReturnsInHanded {} Try.checked os 11 .any (Rows.fnExactKeyAtSpec.pre6 enc Try.prog Try.f11 Rows.fnExactKeyAtRow.domain false) (Rows.fnExactKeyAtSpec.post enc Try.prog Try.f11 false true false false) := by
  refine returnsInHanded_of_change_sized (C := Try.checked) own started (by kernel_rfl) Try.func11
    (ChangeSpec.witness6 (enc := enc) (C := Try.checked) false ⟨#[], #[.string ByteArray.empty, .int .i64 0], []⟩ 8 (by kernel_rfl) (by kernel_rfl) (by kernel_rfl) (by kernel_rfl)) ?_
  intro W base args ds gs before hval0 hW hcnd hsz0 _
  have hval : ∀ (j : Nat) t v, Try.f11.params[j]? = some t → args[j]? = some v → Value.okWide Try.prog W .any base t v := hval0
  have hW' := hW
  obtain ⟨p, q, hA0, hV, rfl, hfz, hnd⟩ := hW
  have hA : DataW.TrodAll enc Try.prog W 0 (fun _ => true) true Try.f11.params.toList args.toList ds p := hA0
  rw [Try.params11] at hA hval
  obtain ⟨v0, vs0, d0, ds0, p0, q0, hargs, rfl, rfl, h0, r0⟩ := trodAll_cons hA
  obtain ⟨v1, vs1, d1, ds1, p1, q1, rfl, rfl, rfl, h1, r1⟩ := trodAll_cons r0
  obtain ⟨rfl, rfl, rfl⟩ := trodAll_nil r1
  obtain rfl : args = #[v0, v1] := by cases args; simp_all
  obtain ⟨rfl, rfl⟩ := trodVars_none hV
  have lt0 : ∀ x ∈ p0, x.block < W.heap.size := by obtain ⟨m, hm⟩ := h0; exact DataW.trod_lt m _ _ _ hm
  obtain ⟨y0, f0, e0⟩ := trod_param Go.TT.te_ok (n := 4) (by decide +kernel) ((hval 0 9 v0 rfl rfl)) h0
  obtain ⟨a0, rfl, b0⟩ := open_str f0
  have lt1 : ∀ x ∈ p1, x.block < W.heap.size := by obtain ⟨m, hm⟩ := h1; exact DataW.trod_lt m _ _ _ hm
  obtain ⟨y1, f1, e1⟩ := trod_param Go.TT.te_ok (n := 4) (by decide +kernel) ((hval 1 3 v1 rfl rfl)) h1
  obtain ⟨a1, rfl, b1⟩ := open_i f1
  clear hA0 hval0 hsz0
  refine (law_pure (T65.law_KeyAt a0 a1) (w := W) (relL_two e0 e1)).mono fun e W' ⟨he, bel⟩ => ?_
  subst he
  exact ⟨_, rfl, _, _, _, [], _, [], hW', trodAll_mk1 (shut_bool Try.underlying4 _), (trodAll_cons_mk (Below.trod laidOut (by kernel_rfl) (of_decide_eq_true (by kernel_rfl)) h0 bel lt0) (trodAll_cons_mk (Below.trod laidOut (by kernel_rfl) (of_decide_eq_true (by kernel_rfl)) h1 bel lt1) trodAll_mk0)), rfl, bel.frame _, fun h => by cases h⟩
theorem over : Rows.fnExactKeyAtRow.holds Try.pinned (OpenSpec.ofChange Rows.fnExactKeyAtSpec) :=
  OpenClaim.holds_of_wide 11 Try.f11 rfl rfl rfl rfl rfl rfl rfl ⟨rfl, rfl, rfl, rfl, rfl⟩ rfl rfl rfl rfl rfl (by kernel_rfl) Try.func11 (by kernel_rfl)
    (of_decide_eq_true (by kernel_rfl)) (by unfold Func.isWrapper; first | (rw [if_pos (by decide +kernel)]; kernel_rfl) | (rw [if_neg (by decide +kernel)]; exact ⟨rfl, rfl⟩))
    (fun os started H enc _ => lifted os started H enc)
theorem proved : Rows.FnExactKeyAtSaid := over
#print axioms proved
end Go.Proofs.Ytjphhddbkjdbnaa.fnExactKeyAt
namespace Go.Proofs.Ytjphhddbkjdbnaa
theorem fnExactKeyAt_holds : Rows.FnExactKeyAtSaid := fnExactKeyAt.proved
end Go.Proofs.Ytjphhddbkjdbnaa
