/- The library's own contracts (the shelf's) as entries of the table of calls. -/
import Derived.Test.YtkbcappnemjjnaaGreatBaseE
import Derived.Shelf.Strings.Repeat
import Derived.Shelf.Strings.Search2
set_option linter.unusedVariables false
set_option linter.unusedSimpArgs false
namespace Go.Vg
set_option linter.unusedVariables false
open Go.Proofs Go.RowKit
set_option maxRecDepth 10000
theorem CallPure.ofBelow {P : Program} {f : FuncId} {args : List SV} {z : SV} (hb : bodyOk P f) (ha : plainL args = true) (hz : z.plain = true)
    (h : ∀ (fz : Nat → Option Obj) (w : World) (vs : Array Value), relL ⟨fun _ => none, fz⟩ args vs.toList → Calls P f vs w fun e w' => ∃ v, e = .returned v ∧ rel ⟨fun _ => none, fz⟩ z v ∧ Below w.heap.size w w') : CallPure P f args z := by
  refine ⟨hb, ha, hz, fun fz w vs hf hr => (h fz w vs hr).mono fun e w' ⟨v, he, hv, hw⟩ => ⟨v, fz, he, hv, ⟨hw.os, hw.tape, hw.output, hw.size, fun b hb _ => hw.block b hb⟩, fun _ _ h => h, fun b o ho => ?_, fun b o ho => .inl ho⟩⟩
  have h1 := hf b o ho
  have h2 : b < w.heap.size := by
    rcases Nat.lt_or_ge b w.heap.size with h | h
    · exact h
    · rw [Array.getElem?_eq_none h] at h1; cases h1
  rw [hw.block b h2, h1]
theorem bodyOk_of {P : Program} {f : FuncId} {fn : Func} (hf : P.funcs[f]? = some fn) (h1 : fn.body.isSome = true) (h2 : (fn.name == "runtime.NumGoroutine") = false) : bodyOk P f := ⟨fn, hf, h1, h2⟩
theorem args_si {σ : Asg} {s : List UInt8} {k : IntKind} {c : Int} {vs : Array Value} (h : relL σ [.s s, .i k c] vs.toList) : vs = #[.string ⟨s.toArray⟩, .int k c] := by
  simp only [relL, rel] at h
  obtain ⟨v, r, e, rfl, v2, r2, rfl, rfl, rfl⟩ := h
  rw [← Array.toList_inj]; exact e
theorem peR_ok1 {P : Program} {f : FuncId} {α : Type} {A : α → List SV} {p : α → Prop} {z : α → SV} (h : ∀ i, p i → CallPure P f (A i) (z i) ∨ CallExt P f (A i) (z i)) : PE1 P f (peR A p z) := by
  intro args q y hq hp
  unfold peR at hq
  split at hq
  · rename_i hx
    simp only [Option.some.injEq, Prod.mk.injEq] at hq
    obtain ⟨rfl, rfl⟩ := hq
    have := h _ hp
    rw [Classical.choose_spec hx] at this
    exact this
  · cases hq
/-- strings.Repeat. -/
noncomputable def pe_rpt : PE := peR (fun (x : List UInt8 × Int) => [.s x.1, .i .i64 x.2]) (fun x => 0 ≤ x.2 ∧ x.2 ≤ 9223372036854775807 ∧ (x.1.length : Int) * x.2 ≤ 140737488355328) (fun x => .s (Lib.repeatL x.1 x.2.toNat))
theorem pe_rpt_eq {s : List UInt8} {c : Int} : pe_rpt [.s s, .i .i64 c] = some (0 ≤ c ∧ c ≤ 9223372036854775807 ∧ (s.length : Int) * c ≤ 140737488355328, .s (Lib.repeatL s c.toNat)) := peR_eq (by rintro ⟨a, b⟩ ⟨c, d⟩ h; simp_all) (s, c)
theorem pe_rpt_ok {P : Program} {f : FuncId} (hb : bodyOk P f) (h : ∀ (s : ByteArray) (c : Nat) (w : World), c ≤ 9223372036854775807 → s.size * c ≤ 140737488355328 →
    Calls P f #[.string s, .int .i64 c] w fun e w' => e = .returned (.string ⟨(Lib.repeatL s.data.toList c).toArray⟩) ∧ Below w.heap.size w w') : PE1 P f pe_rpt := peR_ok1 (by
  rintro ⟨s, c⟩ ⟨h0, h1, h2⟩
  refine .inl (CallPure.ofBelow hb rfl rfl fun fz w vs hr => ?_)
  simp only at h0 h1 h2 hr ⊢
  obtain ⟨n, rfl⟩ : ∃ n : Nat, c = n := ⟨c.toNat, by omega⟩
  rw [args_si hr]
  have h3 : s.length * n ≤ 140737488355328 := Int.ofNat_le.1 (by rw [Int.natCast_mul]; exact h2)
  refine (h ⟨s.toArray⟩ n w (by omega) (by show s.toArray.size * n ≤ _; rw [List.size_toArray]; exact h3)).mono fun e w' he => ⟨_, he.1, ?_, he.2⟩
  simp only [rel, Int.toNat_natCast])
end Go.Vg
