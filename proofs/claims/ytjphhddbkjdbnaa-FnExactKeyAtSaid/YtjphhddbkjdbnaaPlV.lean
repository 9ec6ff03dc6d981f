/- What an event is worth, in plain words. -/
import Derived.Test.YtjphhddbkjdbnaaBaseE
namespace Go.Pl
set_option linter.unusedVariables false
def nulW : List Bs := [[], [126], [110, 117, 108, 108], [78, 117, 108, 108], [78, 85, 76, 76]]
def truW : List Bs := [[116, 114, 117, 101], [84, 114, 117, 101], [84, 82, 85, 69]]
def falW : List Bs := [[102, 97, 108, 115, 101], [70, 97, 108, 115, 101], [70, 65, 76, 83, 69]]
/-- What a plain text is worth: kind, number, truth, text. -/
def plV (iv : Option Int) (s : Bs) : Int × Int × Bool × Bs :=
  if s ∈ nulW then (1, 0, false, []) else if s ∈ truW then (2, 0, true, []) else if s ∈ falW then (2, 0, false, []) else
    match iv with
    | some n => (3, n, false, [])
    | none => (4, 0, false, s)
def coreT : Bs := [116, 97, 103, 58, 121, 97, 109, 108, 46, 111, 114, 103, 44, 50, 48, 48, 50, 58]
def strT : Bs := coreT ++ [115, 116, 114]
def nulT : Bs := coreT ++ [110, 117, 108, 108]
def booT : Bs := coreT ++ [98, 111, 111, 108]
def intT : Bs := coreT ++ [105, 110, 116]
/-- What an event is worth, where its plain text is worth v. -/
def valV (v : Int × Int × Bool × Bs) (e : Ev) : Int × Int × Bool × Bs :=
  if evOk e = false then (0, 0, false, []) else if e.kind = 3 then (5, 0, false, []) else if e.kind = 4 then (6, 0, false, []) else if e.kind = 6 then (8, 0, false, e.text) else if e.kind ≠ 5 then (0, 0, false, []) else
    if e.tag = [] then (if e.style = 1 then v else (4, 0, false, e.text)) else if e.tag = [33] ∨ e.tag = strT then (4, 0, false, e.text) else
      if (e.tag = nulT ∧ v.1 = 1) ∨ (e.tag = booT ∧ v.1 = 2) ∨ (e.tag = intT ∧ v.1 = 3) then v else (7, 0, false, e.text)
end Go.Pl
namespace Go.Pl
theorem getD_mem {α : Type} {z : α} {l : List α} {i : Nat} (h : i < l.length) : l.getD i z ∈ l := by
  simp [List.getD, h]
theorem take_snoc {α : Type} (z : α) {l : List α} {i : Nat} (h : i < l.length) : l.take (i + 1) = l.take i ++ [l.getD i z] := by
  rw [List.take_succ_eq_append_getElem h]
  simp [List.getD, h]
end Go.Pl
namespace Go.Pl
def sfxW : List Bs := [[110, 117, 108, 108], [98, 111, 111, 108], [105, 110, 116]]
end Go.Pl
namespace Go.Pl
theorem valV_hit {v : Int × Int × Bool × Bs} {e : Ev} {i : Nat} (h1 : evOk e = true) (h5 : e.kind = 5) (h2 : e.tag ≠ []) (h3 : e.tag ≠ [33]) (h4 : e.tag ≠ strT) (hi : i < 3) (h : e.tag = coreT ++ sfxW.getD i [] ∧ v.1 = 1 + (i : Int)) : valV v e = v := by
  unfold valV
  rw [if_neg (by simp [h1]), if_neg (by omega), if_neg (by omega), if_neg (by omega), if_neg (by simp [h5]), if_neg h2, if_neg (by simp [h3, h4]), if_pos]
  match i, hi with
  | 0, _ => exact .inl ⟨h.1, by simpa using h.2⟩
  | 1, _ => exact .inr (.inl ⟨h.1, by simpa using h.2⟩)
  | 2, _ => exact .inr (.inr ⟨h.1, by simpa using h.2⟩)
theorem valV_miss {v : Int × Int × Bool × Bs} {e : Ev} (h1 : evOk e = true) (h5 : e.kind = 5) (h2 : e.tag ≠ []) (h3 : e.tag ≠ [33]) (h4 : e.tag ≠ strT) (h : ∀ j, j < 3 → ¬ (e.tag = coreT ++ sfxW.getD j [] ∧ v.1 = 1 + (j : Int))) : valV v e = (7, 0, false, e.text) := by
  unfold valV
  rw [if_neg (by simp [h1]), if_neg (by omega), if_neg (by omega), if_neg (by omega), if_neg (by simp [h5]), if_neg h2, if_neg (by simp [h3, h4]), if_neg]
  rintro (⟨a, b⟩ | ⟨a, b⟩ | ⟨a, b⟩)
  · exact h 0 (by omega) ⟨a, by simpa using b⟩
  · exact h 1 (by omega) ⟨a, by simpa using b⟩
  · exact h 2 (by omega) ⟨a, by simpa using b⟩
end Go.Pl
