/- From a contract to what a law's row asks. -/
import Derived.Test.YtjphhddbkjdbnaaVgZ
import Derived.WalkKit
import Derived.ProofKit
import Derived.OpenShut
import Derived.ShutString
import Derived.ChangeOld
import Derived.Below
import Derived.Carry
import Derived.SizedLaws
import Derived.Deep.Strs
namespace Go.Vg
set_option linter.unusedVariables false
set_option linter.unusedSimpArgs false
open Go.RowKit

/-- A law's function, from values that lie in the world as it is. -/
theorem law_pure {P : Program} {f : FuncId} {args : List SV} {w : World} {vs : Array Value} (h : PF P f args (.b true)) (hv : relL ⟨fun _ => none, fun b => w.heap[b]?⟩ args vs.toList) :
    Calls P f vs w fun e w' => e = .returned (.bool true) ∧ Below w.heap.size w w' := by
  obtain ⟨_, _, _, h⟩ := h.call
  refine (h (fun b => w.heap[b]?) w vs (fun _ _ h => h) hv).mono fun e w' ⟨v, fz', e1, e2, e3, _⟩ => ?_
  simp only [rel] at e2
  subst e2
  exact ⟨e1, e3.os, e3.tape, e3.output, e3.size, fun k hk => e3.block k hk (fun h => h)⟩

theorem rel_agg3 {σ : Asg} {x y z : SV} {a b c : Value} (h1 : rel σ x a) (h2 : rel σ y b) (h3 : rel σ z c) : rel σ (.agg [x, y, z]) (.agg #[a, b, c]) := by
  simp only [rel, relL]
  exact ⟨_, rfl, _, _, rfl, h1, _, _, rfl, h2, _, _, rfl, h3, rfl⟩
theorem rel_i {σ : Asg} {k : IntKind} {n : Int} : rel σ (.i k n) (.int k n) := by simp [rel]
theorem rel_b {σ : Asg} {x : Bool} : rel σ (.b x) (.bool x) := by simp [rel]
theorem rel_s {σ : Asg} {s : ByteArray} : rel σ (.s s.data.toList) (.string s) := by simp [rel]
theorem relL_one {σ : Asg} {x : SV} {v : Value} (h : rel σ x v) : relL σ [x] [v] := by simp only [relL]; exact ⟨_, _, rfl, h, rfl⟩
theorem relL_two {σ : Asg} {x y : SV} {u v : Value} (h : rel σ x u) (h2 : rel σ y v) : relL σ [x, y] [u, v] := by simp only [relL]; exact ⟨_, _, rfl, h, _, _, rfl, h2, rfl⟩
end Go.Vg
