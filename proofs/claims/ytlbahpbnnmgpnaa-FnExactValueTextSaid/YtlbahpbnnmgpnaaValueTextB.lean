/- The law FnExactValueText returns true for every input; no conditions. -/
import Derived.Test.YtlbahpbnnmgpnaaValueTextA
import Derived.Test.YtlbahpbnnmgpnaaVgW
import Derived.Lib.SmallJoins
import Derived.Test.YtlbahpbnnmgpnaaRows
namespace Go.Proofs.Ytlbahpbnnmgpnaa.fnExactValueText
open Go.ChangeShapes Go.WideShapes Go.ChangeAt Go.RowKit Go.Vg
set_option linter.unusedVariables false
theorem own : ownKnob Try.prog.godebug = none := by kernel_rfl
theorem laidOut : laidOutB Try.prog = true := by kernel_rfl
theorem rel_agg4 {σ : Asg} {x y z q : SV} {a b c d : Value} (h1 : rel σ x a) (h2 : rel σ y b) (h3 : rel σ z c) (h4 : rel σ q d) : rel σ (.agg [x, y, z, q]) (.agg #[a, b, c, d]) := by
  simp only [rel, relL]
  exact ⟨_, rfl, _, _, rfl, h1, _, _, rfl, h2, _, _, rfl, h3, _, _, rfl, h4, rfl⟩
set_option maxRecDepth 100000 in
theorem lifted (os : Os) (started : os.Started) (H : Type) (enc : TypeId × Value → H) :
    ReturnsInHanded {} Try.checked os 4 .any (Rows.fnExactValueTextSpec.pre6 enc Try.prog Try.f4 Rows.fnExactValueTextRow.domain false) (Rows.fnExactValueTextSpec.post enc Try.prog Try.f4 false true false false) := by
  refine returnsInHanded_of_change_sized (C := Try.checked) own started (by kernel_rfl) Try.func4
    (ChangeSpec.witness6 (enc := enc) (C := Try.checked) false ⟨#[], #[.agg #[.int .i64 0, .int .i64 0, .bool false, .string ByteArray.empty]], []⟩ 8 (by kernel_rfl) (by kernel_rfl) (by kernel_rfl) (by kernel_rfl)) ?_
  intro W base args ds gs before hval0 hW hcnd hsz0 _
  have hval : ∀ (j : Nat) t v, Try.f4.params[j]? = some t → args[j]? = some v → Value.okWide Try.prog W .any base t v := hval0
  have hW' := hW
  obtain ⟨p, q, hA0, hV, rfl, hfz, hnd⟩ := hW
  have hA : DataW.TrodAll enc Try.prog W 0 (fun _ => true) true Try.f4.params.toList args.toList ds p := hA0
  rw [Try.params4] at hA hval
  obtain ⟨v0, vs0, d0, ds0, p0, q0, hargs, rfl, rfl, h0, r0⟩ := trodAll_cons hA
  obtain ⟨rfl, rfl, rfl⟩ := trodAll_nil r0
  obtain rfl : args = #[v0] := by cases args; simp_all
  obtain ⟨rfl, rfl⟩ := trodVars_none hV
  obtain ⟨cs, rfl, hcs⟩ := okWide_struct Try.underlying30 (hval 0 30 v0 rfl rfl)
  have k0 := h0
  have lt0 : ∀ x ∈ p0, x.block < W.heap.size := by obtain ⟨m, hm⟩ := k0; exact DataW.trod_lt m _ _ _ hm
  obtain ⟨k, n, q, t, rfl, ht⟩ : ∃ (k n : Int) (q : Bool) (t : ByteArray), cs = #[.int .i64 k, .int .i64 n, .bool q, .string t] ∧ t.size ≤ maxLen := by
    obtain ⟨fuel, hf⟩ := h0
    obtain ⟨y0, y1, y2, y3, m, _, hl, g0, g1, g2, g3⟩ := Joins.trod_struct4 Try.underlying30 hf
    obtain ⟨a, ea, _, _⟩ := DataW.trod_int Try.underlying3 g0
    obtain ⟨b, eb, _, _⟩ := DataW.trod_int Try.underlying3 g1
    obtain ⟨c, ec, _⟩ := DataW.trod_bool Try.underlying4 g2
    obtain ⟨s, es, _, hs⟩ := DataW.trod_string Try.underlying9 g3
    have c3 : Try.prog.cellsOf 3 = 1 := by kernel_rfl
    have c4 : Try.prog.cellsOf 4 = 1 := by kernel_rfl
    have c9 : Try.prog.cellsOf 9 = 1 := by kernel_rfl
    have c30 : Try.prog.cellsOf 30 = 4 := by kernel_rfl
    rw [c3] at ea eb
    rw [c4] at ec
    rw [c9] at es
    have hl3 : cs.toList.length = 4 := by rw [Array.length_toList, hcs, c30]
    have hc : (Value.agg cs).cells.toList = cs.toList := rfl
    rw [hc] at ea eb ec es
    clear hl g0 g1 g2 g3 hf hcs
    generalize hll : cs.toList = l at *
    rcases l with _ | ⟨x, _ | ⟨y, _ | ⟨z, _ | ⟨u, _ | ⟨u2, r⟩⟩⟩⟩⟩ <;> simp at hl3
    simp at ea eb ec es
    subst ea eb ec es
    exact ⟨a, b, c, s, by rw [← hll], hs⟩
  clear hA0 hval0 hsz0
  refine (law_pure (T4.law k n q t.data.toList (by rw [Array.length_toList, ByteArray.size_data]; exact Nat.le_trans ht (by decide))) (w := W) (relL_one (rel_agg4 rel_i rel_i rel_b rel_s))).mono fun e W' ⟨he, bel⟩ => ?_
  subst he
  exact ⟨_, rfl, _, _, _, [], _, [], hW', trodAll_mk1 (shut_bool Try.underlying4 _), (trodAll_cons_mk (Below.trod laidOut (by kernel_rfl) (of_decide_eq_true (by kernel_rfl)) k0 bel lt0) trodAll_mk0), rfl, bel.frame _, fun h => by cases h⟩
theorem over : Rows.fnExactValueTextRow.holds Try.pinned (OpenSpec.ofChange Rows.fnExactValueTextSpec) :=
  OpenClaim.holds_of_wide 4 Try.f4 rfl rfl rfl rfl rfl rfl rfl ⟨rfl, rfl, rfl, rfl, rfl⟩ rfl rfl rfl rfl rfl (by kernel_rfl) Try.func4 (by kernel_rfl)
    (of_decide_eq_true (by kernel_rfl)) (by unfold Func.isWrapper; first | (rw [if_pos (by decide +kernel)]; kernel_rfl) | (rw [if_neg (by decide +kernel)]; exact ⟨rfl, rfl⟩))
    (fun os started H enc _ => lifted os started H enc)
theorem proved : Rows.FnExactValueTextSaid := over
#print axioms proved
end Go.Proofs.Ytlbahpbnnmgpnaa.fnExactValueText
namespace Go.Proofs.Ytlbahpbnnmgpnaa
theorem fnExactValueText_holds : Rows.FnExactValueTextSaid := fnExactValueText.proved
end Go.Proofs.Ytlbahpbnnmgpnaa
