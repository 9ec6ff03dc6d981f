/- The library's own contracts (the shelf's) as entries of the table of calls. -/
import Derived.Test.YtjphhddbkjdbnaaDoorBaseE
import Derived.Shelf.Strings.Repeat
import Derived.Shelf.Strings.Search2
import Derived.Lib.Join
import Derived.Lib.Replace
import Derived.Lib.CountLaws
section
set_option linter.unusedVariables false
set_option linter.unusedSimpArgs false
namespace Go.Vg
set_option linter.unusedSectionVars false
variable [Go.Vg.Glob]
set_option linter.unusedVariables false
open Go.Proofs Go.RowKit
set_option maxRecDepth 10000
/-- .. where the world's blocks that stay are asked. -/
theorem CallPure.ofGlob {P : Program} {f : FuncId} {args : List SV} {z : SV} (hb : bodyOk P f) (ha : plainL args = true) (hz : z.plain = true)
    (h : ∀ (fz : Nat → Option Obj) (w : World) (vs : Array Value), (∀ b o, fz b = some o → w.heap[b]? = some o) → (∀ b o, Glob.g b = some o → w.heap[b]? = some o) → relL ⟨fun _ => none, fz⟩ args vs.toList → Calls P f vs w fun e w' => ∃ v, e = .returned v ∧ rel ⟨fun _ => none, fz⟩ z v ∧ Below w.heap.size w w') : CallPure P f args z := by
  refine ⟨hb, ha, hz, fun fz w vs hf hg hr => (h fz w vs hf (fun b o e => hf b o (hg b o e)) hr).mono fun e w' ⟨v, he, hv, hw⟩ => ⟨v, fz, he, hv, ⟨hw.os, hw.tape, hw.output, hw.size, fun b hb _ => hw.block b hb⟩, fun _ _ h => h, fun b o ho => ?_, fun b o ho => .inl ho⟩⟩
  have h1 := hf b o ho
  have h2 : b < w.heap.size := by
    rcases Nat.lt_or_ge b w.heap.size with h | h
    · exact h
    · rw [Array.getElem?_eq_none h] at h1; cases h1
  rw [hw.block b h2, h1]
theorem bodyOk_of {P : Program} {f : FuncId} {fn : Func} (hf : P.funcs[f]? = some fn) (h1 : fn.body.isSome = true) (h2 : (fn.name == "runtime.NumGoroutine") = false) : bodyOk P f := ⟨fn, hf, h1, h2⟩
theorem peR_ok1 {P : Program} {f : FuncId} {α : Type} {A : α → List SV} {p : α → Prop} {z : α → SV} (h : ∀ i, p i → CallPure P f (A i) (z i) ∨ CallExt P f (A i) (z i)) : PE1 P f (peR A p z) := by
  intro args q y hq hp
  unfold peR at hq
  split at hq
  · rename_i hx
    simp only [Option.some.injEq, Prod.mk.injEq] at hq
    obtain ⟨rfl, rfl⟩ := hq
    have := h _ hp
    rw [Classical.choose_spec hx] at this
    exact this
  · cases hq
end Go.Vg
end
section
set_option linter.unusedVariables false
set_option linter.unusedSimpArgs false
namespace Go.Vg
set_option linter.unusedSectionVars false
set_option linter.unusedVariables false
variable [Go.Vg.Glob]
open Go.Proofs Go.RowKit
/-- A variable of an integer type among the blocks that stay. -/
class GlobInt (b : Nat) : Prop where
  ex : ∃ (o : Obj) (m : Int), Glob.g b = some o ∧ ∀ w : World, w.heap[b]? = some o → w.cell? ⟨b, 0, none⟩ = some (.int .i64 m)
theorem args_sss {σ : Asg} {s t u : List UInt8} {vs : Array Value} (h : relL σ [.s s, .s t, .s u] vs.toList) : vs = #[.string ⟨s.toArray⟩, .string ⟨t.toArray⟩, .string ⟨u.toArray⟩] := by
  simp only [relL, rel] at h
  obtain ⟨v, r, e, rfl, v2, r2, rfl, rfl, v3, r3, rfl, rfl, rfl⟩ := h
  rw [← Array.toList_inj]; exact e
noncomputable def pe_rplA : PE := peR (fun (x : List UInt8 × List UInt8 × List UInt8) => [.s x.1, .s x.2.1, .s x.2.2]) (fun x => x.1.length < 4294967281 ∧ 1 ≤ x.2.1.length ∧ x.1.length + (x.1.length + 1) * x.2.2.length ≤ 140737488355328) (fun x => .s (Lib.replaceAll x.1 x.2.1 x.2.2))
theorem pe_rplA_eq {s t u : List UInt8} : pe_rplA [.s s, .s t, .s u] = some (s.length < 4294967281 ∧ 1 ≤ t.length ∧ s.length + (s.length + 1) * u.length ≤ 140737488355328, .s (Lib.replaceAll s t u)) := peR_eq (by rintro ⟨a, b, c⟩ ⟨d, e, f⟩ h; simp_all) (s, t, u)
theorem pe_rplA_ok {P : Program} {f : FuncId} {b : Nat} [GlobInt b] (hb : bodyOk P f) (h : ∀ (s old new : ByteArray) (m : Int) (w : World), s.size < 4294967281 → w.cell? ⟨b, 0, none⟩ = some (.int .i64 m) → 1 ≤ old.size → s.size + Lib.countB s old * new.size ≤ 140737488355328 →
    Calls P f #[.string s, .string old, .string new] w fun e w' => e = .returned (.string ⟨(Lib.replaceAll s.data.toList old.data.toList new.data.toList).toArray⟩) ∧ Below w.heap.size w w') : PE1 P f pe_rplA := peR_ok1 (by
  rintro ⟨s, t, u⟩ ⟨h0, h1, h2⟩
  refine .inl (CallPure.ofGlob hb rfl rfl fun fz w vs _ hg hr => ?_)
  simp only at h0 h1 h2 hr ⊢
  obtain ⟨o, m, e1, e2⟩ := GlobInt.ex (b := b)
  rw [args_sss hr]
  have h3 : Lib.count s t * u.length ≤ (s.length + 1) * u.length := Nat.mul_le_mul_right _ (Lib.count_le s t)
  refine (h ⟨s.toArray⟩ ⟨t.toArray⟩ ⟨u.toArray⟩ m w (by show s.toArray.size < _; rw [List.size_toArray]; exact h0) (e2 w (hg b o e1)) (by show 1 ≤ t.toArray.size; rw [List.size_toArray]; exact h1) (by
    show s.toArray.size + Lib.count s t * u.toArray.size ≤ _
    rw [List.size_toArray, List.size_toArray]
    omega)).mono fun e w' he => ⟨_, he.1, ?_, he.2⟩
  simp only [rel])
/-- A row of texts, as a function of the library finds it. -/
theorem rel_texts {σ : Asg} : ∀ {xs : List (List UInt8)} {vs : List Value}, relR σ 1 (xs.map strc) vs → ∀ (j : Nat) x, xs[j]? = some x → vs[j]? = some (.string ⟨x.toArray⟩)
  | [], _, _, j, x, h => by simp at h
  | y :: ys, vs, hr, j, x, h => by
    simp only [List.map_cons, relR, strc] at hr
    obtain ⟨_, h1, h2⟩ := hr
    cases vs with
    | nil => simp [relL] at h1
    | cons v vs =>
      simp only [List.take_succ_cons, List.take_zero, relL, rel, List.cons.injEq] at h1
      obtain ⟨v', r', ⟨rfl, rfl⟩, rfl, _⟩ := h1
      cases j with
      | zero => simp at h ⊢; rw [h]
      | succ j =>
        simp only [List.getElem?_cons_succ, List.drop_succ_cons, List.drop_zero] at h h2 ⊢
        exact rel_texts h2 j x h
noncomputable def pe_join : PE := peR (fun (x : List (List UInt8) × List UInt8) => [.fs 1 (x.1.map strc), .s x.2]) (fun x => x.1.length ≤ 140737488355328 ∧ (Lib.join x.1 x.2).length ≤ 140737488355328) (fun x => .s (Lib.join x.1 x.2))
theorem pe_join_eq {xs : List (List UInt8)} {t : List UInt8} : pe_join [.fs 1 (xs.map strc), .s t] = some (xs.length ≤ 140737488355328 ∧ (Lib.join xs t).length ≤ 140737488355328, .s (Lib.join xs t)) := peR_eq (by
  rintro ⟨a, b⟩ ⟨c, d⟩ h
  simp only [List.cons.injEq, SV.fs.injEq, SV.s.injEq, true_and, and_true] at h
  obtain ⟨h1, h2⟩ := h
  have := List.map_inj_right (f := strc) (fun x y e => by simpa [strc] using e) |>.1 h1
  simp_all) (xs, t)
theorem pe_join_ok {P : Program} {f : FuncId} (hb : bodyOk P f) (h0 : ∀ (a : Option Addr) (c : Nat) (sep : ByteArray) (w : World), Calls P f #[.slice a 0 c, .string sep] w fun e w' => e = .returned (.string ⟨#[]⟩) ∧ w' = w)
    (h : ∀ (bk o c : Nat) (xs : List ByteArray) (sep : ByteArray) (w : World), (∀ (j : Nat) x, xs[j]? = some x → w.cell? ⟨bk, o + j, none⟩ = some (.string x)) → bk < w.heap.size → xs.length ≤ 140737488355328 → xs.length ≤ c → (Lib.join (xs.map (·.data.toList)) sep.data.toList).length ≤ 140737488355328 →
    Calls P f #[.slice (some ⟨bk, o, none⟩) xs.length c, .string sep] w fun e w' => e = .returned (.string ⟨(Lib.join (xs.map (·.data.toList)) sep.data.toList).toArray⟩) ∧ Below w.heap.size w w') : PE1 P f pe_join := peR_ok1 (by
  rintro ⟨xs, t⟩ ⟨h1, h2⟩
  refine .inl (CallPure.ofGlob hb (by simp [plainL, SV.plain]) rfl fun fz w vs hf _ hr => ?_)
  simp only at h1 h2 hr ⊢
  simp only [relL, rel, List.length_map] at hr
  obtain ⟨v, r, e, ⟨a, cap, rfl, hcap, hx⟩, v2, r2, rfl, rfl, rfl⟩ := hr
  have ev : vs = #[.slice a xs.length cap, .string ⟨t.toArray⟩] := by rw [← Array.toList_inj]; exact e
  subst ev
  rcases hx with hx | ⟨b, off, c, ty, fr, rfl, hb2, hrr⟩
  · have : xs = [] := by simpa using hx
    subst this
    exact (h0 a cap ⟨t.toArray⟩ w).mono fun e w' he => ⟨_, he.1, by simp [rel, Lib.join, List.intercalate], he.2 ▸ Below.refl _ _⟩
  · have hh := hf b _ hb2
    have hlt : b < w.heap.size := by
      rcases Nat.lt_or_ge b w.heap.size with h | h
      · exact h
      · rw [Array.getElem?_eq_none h] at hh; cases hh
    have em : (xs.map (fun l => (⟨l.toArray⟩ : ByteArray))).map (·.data.toList) = xs := by simp [List.map_map, Function.comp_def]
    have el : (xs.map (fun l => (⟨l.toArray⟩ : ByteArray))).length = xs.length := by simp
    have := h b off cap (xs.map fun l => ⟨l.toArray⟩) ⟨t.toArray⟩ w (fun j x hj => by
      simp only [List.getElem?_map, Option.map_eq_some_iff] at hj
      obtain ⟨y, hy, rfl⟩ := hj
      have h5 := rel_texts hrr j y hy
      rw [List.getElem?_drop] at h5
      unfold World.cell?
      simp only [hh, ← h5, Array.getElem?_toList]
      try rfl) hlt (by rw [el]; exact h1) (by rw [el]; exact hcap) (by rw [em]; exact h2)
    rw [el] at this
    refine this.mono fun e w' he => ⟨_, he.1, ?_, he.2⟩
    simp only [rel, em])
end Go.Vg
end
