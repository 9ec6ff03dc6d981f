/- The law FnExactFlowAt returns true for every input; no conditions. -/
import Derived.Test.YtkbcappnemjjnaaGreatFlowP
import Derived.Test.YtkbcappnemjjnaaGreatBaseD
import Derived.Test.YtkbcappnemjjnaaGreatBaseE
import Derived.Lib.SmallJoins
import Derived.Carry
import Derived.Test.YtkbcappnemjjnaaGreatRows
set_option linter.unusedVariables false
set_option linter.unusedSimpArgs false
namespace Go.Proofs.YtkbcappnemjjnaaGreat.fnExactFlowAt
open Go.ChangeMaps (open_string shut_string)
open Go.ChangeShapes Go.WideShapes Go.ChangeAt Go.RowKit Go.Vg 
set_option linter.unusedVariables false
set_option linter.unusedSimpArgs false
theorem own : ownKnob Tryz.prog.godebug = none := by kernel_rfl
theorem laidOut : laidOutB Tryz.prog = true := by kernel_rfl
theorem open_str {y : SV} (h : fitsV Go.TT.te 4 9 y) : ∃ l : List UInt8, y = .s l ∧ l.length ≤ 9223372036854775807 := by
  simp only [fitsV, tdOf, fits, Go.TT.te_9, TD.isStruct, Bool.false_eq_true, if_false] at h
  obtain ⟨m, e, hm⟩ := h
  cases e
  exact ⟨m, rfl, hm⟩
theorem open_i {y : SV} (h : fitsV Go.TT.te 4 3 y) : ∃ m : Int, y = .i .i64 m ∧ inR .i64 m := by
  simp only [fitsV, tdOf, fits, Go.TT.te_3, TD.isStruct, Bool.false_eq_true, if_false] at h
  obtain ⟨m, e, hm⟩ := h
  cases e
  exact ⟨m, rfl, hm⟩
set_option maxRecDepth 100000 in
theorem lifted (os : Os) (started : os.Started) (H : Type) (enc : TypeId × Value → H) :
    ReturnsInHanded {} Tryz.checked os 3 .any (Rows.fnExactFlowAtSpec.pre6 enc Tryz.prog Tryz.f3 Rows.fnExactFlowAtRow.domain false) (Rows.fnExactFlowAtSpec.post enc Tryz.prog Tryz.f3 false true false false) := by
  refine returnsInHanded_of_change_sized (C := Tryz.checked) own started (by kernel_rfl) Tryz.func3
    (ChangeSpec.witness6 (enc := enc) (C := Tryz.checked) false ⟨#[], #[.string ByteArray.empty, .int .i64 0], []⟩ 8 (by kernel_rfl) (by kernel_rfl) (by kernel_rfl) (by kernel_rfl)) ?_
  intro W base args ds gs before hval0 hW hcnd hsz0 _
  have hval : ∀ (j : Nat) t v, Tryz.f3.params[j]? = some t → args[j]? = some v → Value.okWide Tryz.prog W .any base t v := hval0
  have hW' := hW
  obtain ⟨p, q, hA0, hV, rfl, hfz, hnd⟩ := hW
  have hA : DataW.TrodAll enc Tryz.prog W 0 (fun _ => true) true Tryz.f3.params.toList args.toList ds p := hA0
  rw [Tryz.params3] at hA hval
  obtain ⟨v0, vs0, d0, ds0, p0, q0, hargs, rfl, rfl, h0, r0⟩ := trodAll_cons hA
  obtain ⟨v1, vs1, d1, ds1, p1, q1, rfl, rfl, rfl, h1, r1⟩ := trodAll_cons r0
  obtain ⟨rfl, rfl, rfl⟩ := trodAll_nil r1
  obtain rfl : args = #[v0, v1] := by cases args; simp_all
  obtain ⟨rfl, rfl⟩ := trodVars_none hV
  have lt0 : ∀ x ∈ p0, x.block < W.heap.size := by obtain ⟨m, hm⟩ := h0; exact DataW.trod_lt m _ _ _ hm
  obtain ⟨y0, f0, e0⟩ := trod_param Go.TT.te_ok (n := 4) (by decide +kernel) ((hval 0 9 v0 rfl rfl)) h0
  obtain ⟨a0, rfl, b0⟩ := open_str f0
  have lt1 : ∀ x ∈ p1, x.block < W.heap.size := by obtain ⟨m, hm⟩ := h1; exact DataW.trod_lt m _ _ _ hm
  obtain ⟨y1, f1, e1⟩ := trod_param Go.TT.te_ok (n := 4) (by decide +kernel) ((hval 1 3 v1 rfl rfl)) h1
  obtain ⟨a1, rfl, b1⟩ := open_i f1
  clear hA0 hval0 hsz0
  refine (law_pure (T86.law_FlowAt a0 a1) (w := W) (relL_two e0 e1)).mono fun e W' ⟨he, bel⟩ => ?_
  subst he
  exact ⟨_, rfl, _, _, _, [], _, [], hW', trodAll_mk1 (shut_bool Tryz.underlying4 _), (trodAll_cons_mk (Below.trod laidOut (by kernel_rfl) (of_decide_eq_true (by kernel_rfl)) h0 bel lt0) (trodAll_cons_mk (Below.trod laidOut (by kernel_rfl) (of_decide_eq_true (by kernel_rfl)) h1 bel lt1) trodAll_mk0)), rfl, bel.frame _, fun h => by cases h⟩
theorem over : Rows.fnExactFlowAtRow.holds Tryz.pinned (OpenSpec.ofChange Rows.fnExactFlowAtSpec) :=
  OpenClaim.holds_of_wide 3 Tryz.f3 rfl rfl rfl rfl rfl rfl rfl ⟨rfl, rfl, rfl, rfl, rfl⟩ rfl rfl rfl rfl rfl (by kernel_rfl) Tryz.func3 (by kernel_rfl)
    (of_decide_eq_true (by kernel_rfl)) (by unfold Func.isWrapper; first | (rw [if_pos (by decide +kernel)]; kernel_rfl) | (rw [if_neg (by decide +kernel)]; exact ⟨rfl, rfl⟩))
    (fun os started H enc _ => lifted os started H enc)
theorem proved : Rows.FnExactFlowAtSaid := over
#print axioms proved
end Go.Proofs.YtkbcappnemjjnaaGreat.fnExactFlowAt
namespace Go.Proofs.YtkbcappnemjjnaaGreat
theorem fnExactFlowAt_holds : Rows.FnExactFlowAtSaid := fnExactFlowAt.proved
end Go.Proofs.YtkbcappnemjjnaaGreat
