/- From a contract to what a law's row asks. -/
import Derived.Test.YtlbahpbnnmgpnaaVgZ
import Derived.WalkKit
import Derived.ProofKit
import Derived.OpenShut
import Derived.ShutString
import Derived.ChangeOld
import Derived.Below
import Derived.Carry
import Derived.SizedLaws
import Derived.Deep.Strs
namespace Go.Vg
set_option linter.unusedVariables false
set_option linter.unusedSimpArgs false
open Go.RowKit

theorem law_calls {P : Program} {f : FuncId} {args : List SV} {pre : Ctx} {w : World} {σ : Asg} {vs : Array Value} (h : FnOK P f args pre fun z _ => z = .b true) (hro : (pre.all fun o => match o with | some x => x.ro | none => true) = true)
    (hs : Sat σ w pre) (hv : relL σ args vs.toList) : Calls P f vs w fun e w' => e = .returned (.bool true) ∧ Below w.heap.size w w' := by
  refine (h.2 w σ vs hs hv).mono fun e w' ⟨v, z, c, σ', e1, e2, p⟩ => ?_
  subst e2
  have hval := p.val
  simp only [rel] at hval
  subst hval
  refine ⟨e1, p.fr.os, p.fr.tape, p.fr.output, p.fr.size, fun k hk => p.fr.block k hk ?_⟩
  rintro ⟨h, o, L, h1, h2, _, _⟩
  rw [List.all_eq_true] at hro
  have hlt := at_lt h1
  have := hro (some o) (by
    refine List.mem_of_getElem? (i := h) ?_
    rw [Ctx.at, List.getD_eq_getElem?_getD, List.getElem?_eq_getElem hlt] at h1
    rw [List.getElem?_eq_getElem hlt]
    simpa using h1)
  simp only at this
  rw [h2] at this; cases this

theorem law_pure {P : Program} {f : FuncId} {args : List SV} {w : World} {vs : Array Value} (h : PF P f args (.b true)) (hv : relL (fun _ => none) args vs.toList) :
    Calls P f vs w fun e w' => e = .returned (.bool true) ∧ Below w.heap.size w w' :=
  law_calls h.2.2 rfl (sat_nil w) hv

theorem rel_agg3 {σ : Asg} {x y z : SV} {a b c : Value} (h1 : rel σ x a) (h2 : rel σ y b) (h3 : rel σ z c) : rel σ (.agg [x, y, z]) (.agg #[a, b, c]) := by
  simp only [rel, relL]
  exact ⟨_, rfl, _, _, rfl, h1, _, _, rfl, h2, _, _, rfl, h3, rfl⟩
theorem rel_i {σ : Asg} {k : IntKind} {n : Int} : rel σ (.i k n) (.int k n) := by simp [rel]
theorem rel_b {σ : Asg} {x : Bool} : rel σ (.b x) (.bool x) := by simp [rel]
theorem rel_s {σ : Asg} {s : ByteArray} : rel σ (.s s.data.toList) (.string s) := by simp [rel]
theorem relL_one {σ : Asg} {x : SV} {v : Value} (h : rel σ x v) : relL σ [x] [v] := by simp only [relL]; exact ⟨_, _, rfl, h, rfl⟩
theorem relL_two {σ : Asg} {x y : SV} {u v : Value} (h : rel σ x u) (h2 : rel σ y v) : relL σ [x, y] [u, v] := by simp only [relL]; exact ⟨_, _, rfl, h, _, _, rfl, h2, rfl⟩
end Go.Vg
