/- What the model stands in for: the first place of a byte in a string. -/
import Derived.Test.YtjphhddbkjdbnaaVgXS
import Derived.Test.YtjphhddbkjdbnaaPlA
import Derived.Laws.Externs
namespace Go.Vg
set_option linter.unusedVariables false
theorem range_find {α : Type} [Inhabited α] (p : α → Bool) : ∀ (l : List α), (List.range l.length).find? (fun i => p l[i]!) = l.findIdx? p
  | [] => rfl
  | x :: xs => by
    rw [List.length_cons, List.range_succ_eq_map, List.find?_cons, List.findIdx?_cons]
    simp only [List.getElem!_cons_zero, List.find?_map]
    cases h : p x with
    | true => rfl
    | false =>
      simp only [Bool.false_eq_true, if_false]
      rw [← range_find p xs]
      congr 1
theorem firstIdx_eq (l : List UInt8) (c : UInt8) : firstIdx ⟨l.toArray⟩ c = Pl.idx l c := by
  unfold firstIdx Pl.idx
  have h : (ByteArray.mk l.toArray).size = l.length := by simp [ByteArray.size]
  have h2 : (fun i => (ByteArray.mk l.toArray)[i]! == c) = fun (i : Nat) => (fun x : UInt8 => x == c) l[i]! := by
    funext i
    simp only [getElem!_def, getElem?_def, h]
    by_cases hi : i < l.length
    · simp [hi, ByteArray.getElem_eq_getElem_data]
    · simp [hi]
  rw [h, h2]
  have h3 := range_find (fun x : UInt8 => x == c) l
  rw [h3]
  rfl
theorem ext_idx {P : Program} {f : FuncId} {fn : Func} (hf : P.funcs[f]? = some fn) (hname : (fn.name == "runtime.NumGoroutine") = false)
    (hb : fn.body.isNone = true) (hn : Extern.findNext fn = none) (he : Extern.find fn = some Extern.BytealgIndexByte.indexByte) (x : List UInt8 × Int) :
    CallExt P f [.s x.1, .i .u8 x.2] (.i .i64 (Pl.idx x.1 (UInt8.ofNat x.2.toNat))) := by
  refine ⟨rfl, rfl, fun fz w vs _ hr => ?_⟩
  simp only [relL, rel] at hr
  obtain ⟨v, r, e, rfl, v2, r2, rfl, rfl, rfl⟩ := hr
  have hvs : vs = #[.string ⟨x.1.toArray⟩, .int .u8 x.2] := by rw [← Array.toList_inj]; exact e
  subst hvs
  refine ⟨.int .i64 (firstIdx ⟨x.1.toArray⟩ x.2.toNat.toUInt8), ?_, ?_⟩
  · rw [run_callFunc_extern hf hname hb hn he, run_indexByte_string]
    simp only [Result.andThen_ok]
  · simp only [rel, firstIdx_eq]
noncomputable def pe_ix : PE := peR (fun (x : List UInt8 × Int) => [.s x.1, .i .u8 x.2]) (fun _ => True) (fun x => .i .i64 (Pl.idx x.1 (UInt8.ofNat x.2.toNat)))
theorem pe_ix_eq {s : List UInt8} {c : Int} : pe_ix [.s s, .i .u8 c] = some (True, .i .i64 (Pl.idx s (UInt8.ofNat c.toNat))) := peR_eq (by rintro ⟨a, b⟩ ⟨c, d⟩ h; simp_all) (s, c)
theorem pe_ix_ok {P : Program} {f : FuncId} (h : ∀ x : List UInt8 × Int, CallExt P f [.s x.1, .i .u8 x.2] (.i .i64 (Pl.idx x.1 (UInt8.ofNat x.2.toNat)))) : PE1 P f pe_ix := by
  intro args q y hq hp
  unfold pe_ix peR at hq
  split at hq
  · rename_i hx
    simp only [Option.some.injEq, Prod.mk.injEq] at hq
    obtain ⟨rfl, rfl⟩ := hq
    have h1 := Classical.choose_spec hx
    have := h (Classical.choose hx)
    simp only at h1
    rw [h1] at this
    exact .inr this
  · cases hq
end Go.Vg
