/- The law FnValue returns true for every input; no conditions. -/
import Derived.Test.YtlbahpbnnmgpnaaNumD
import Derived.Test.YtlbahpbnnmgpnaaBaseD
import Derived.Test.YtlbahpbnnmgpnaaBaseE
import Derived.Lib.SmallJoins
import Derived.Carry
import Derived.Test.YtlbahpbnnmgpnaaRows
namespace Go.Proofs.Ytlbahpbnnmgpnaa.fnValue
open Go.ChangeMaps (open_string shut_string)
open Go.ChangeShapes Go.WideShapes Go.ChangeAt Go.RowKit Go.Vg 
set_option linter.unusedVariables false
set_option linter.unusedSimpArgs false
theorem own : ownKnob Try.prog.godebug = none := by kernel_rfl
theorem laidOut : laidOutB Try.prog = true := by kernel_rfl
theorem open_bytes {y : SV} (h : fitsV Go.TT.te 4 36 y) : ∃ l : List UInt8, y = .fs 1 (l.map bytc) ∧ l.length ≤ 9223372036854775807 := by
  simp only [fitsV, tdOf, szOf, fits, Go.TT.te_36, Go.TT.te_5, TD.isStruct, Bool.false_eq_true, if_false] at h
  obtain ⟨l, e, hl, hy⟩ := h
  cases e
  obtain ⟨es, rfl, he⟩ := exists_map (f := bytc) (p := fun _ => True) (l := l) fun y hy' => by
    obtain ⟨m, rfl, hm⟩ := hy y hy'
    simp only [inR] at hm
    refine ⟨UInt8.ofNat m.toNat, trivial, ?_⟩
    simp only [bytc, UInt8.toNat_ofNat']
    congr 2
    omega
  exact ⟨es, rfl, by simpa using hl⟩
set_option maxRecDepth 100000 in
theorem lifted (os : Os) (started : os.Started) (H : Type) (enc : TypeId × Value → H) :
    ReturnsInHanded {} Try.checked os 10 .any (Rows.fnValueSpec.pre6 enc Try.prog Try.f10 Rows.fnValueRow.domain false) (Rows.fnValueSpec.post enc Try.prog Try.f10 false true false false) := by
  refine returnsInHanded_of_change_sized (C := Try.checked) own started (by kernel_rfl) Try.func10
    (ChangeSpec.witness6 (enc := enc) (C := Try.checked) false ⟨#[], #[.slice none 0 0], []⟩ 8 (by kernel_rfl) (by kernel_rfl) (by kernel_rfl) (by kernel_rfl)) ?_
  intro W base args ds gs before hval0 hW hcnd hsz0 _
  have hval : ∀ (j : Nat) t v, Try.f10.params[j]? = some t → args[j]? = some v → Value.okWide Try.prog W .any base t v := hval0
  have hW' := hW
  obtain ⟨p, q, hA0, hV, rfl, hfz, hnd⟩ := hW
  have hA : DataW.TrodAll enc Try.prog W 0 (fun _ => true) true Try.f10.params.toList args.toList ds p := hA0
  rw [Try.params10] at hA hval
  obtain ⟨v0, vs0, d0, ds0, p0, q0, hargs, rfl, rfl, h0, r0⟩ := trodAll_cons hA
  obtain ⟨rfl, rfl, rfl⟩ := trodAll_nil r0
  obtain rfl : args = #[v0] := by cases args; simp_all
  obtain ⟨rfl, rfl⟩ := trodVars_none hV
  have lt0 : ∀ x ∈ p0, x.block < W.heap.size := by obtain ⟨m, hm⟩ := h0; exact DataW.trod_lt m _ _ _ hm
  obtain ⟨y0, f0, e0⟩ := trod_param Go.TT.te_ok (n := 4) (by decide +kernel) ((hval 0 36 v0 rfl rfl)) h0
  obtain ⟨a0, rfl, b0⟩ := open_bytes f0
  clear hA0 hval0 hsz0
  refine (law_pure (T38.law_FnValue a0 b0) (w := W) (relL_one e0)).mono fun e W' ⟨he, bel⟩ => ?_
  subst he
  exact ⟨_, rfl, _, _, _, [], _, [], hW', trodAll_mk1 (shut_bool Try.underlying4 _), (trodAll_cons_mk (Below.trod laidOut (by kernel_rfl) (of_decide_eq_true (by kernel_rfl)) h0 bel lt0) trodAll_mk0), rfl, bel.frame _, fun h => by cases h⟩
theorem over : Rows.fnValueRow.holds Try.pinned (OpenSpec.ofChange Rows.fnValueSpec) :=
  OpenClaim.holds_of_wide 10 Try.f10 rfl rfl rfl rfl rfl rfl rfl ⟨rfl, rfl, rfl, rfl, rfl⟩ rfl rfl rfl rfl rfl (by kernel_rfl) Try.func10 (by kernel_rfl)
    (of_decide_eq_true (by kernel_rfl)) (by unfold Func.isWrapper; first | (rw [if_pos (by decide +kernel)]; kernel_rfl) | (rw [if_neg (by decide +kernel)]; exact ⟨rfl, rfl⟩))
    (fun os started H enc _ => lifted os started H enc)
theorem proved : Rows.FnValueSaid := over
#print axioms proved
end Go.Proofs.Ytlbahpbnnmgpnaa.fnValue
namespace Go.Proofs.Ytlbahpbnnmgpnaa
theorem fnValue_holds : Rows.FnValueSaid := fnValue.proved
end Go.Proofs.Ytlbahpbnnmgpnaa
