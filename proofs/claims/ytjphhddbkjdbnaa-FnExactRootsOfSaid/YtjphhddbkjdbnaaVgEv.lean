/- Rows of events and of steps. -/
import Derived.Test.YtjphhddbkjdbnaaVgRow
import Derived.Test.YtjphhddbkjdbnaaPlE
namespace Go.Vg
open Go.Pl
set_option linter.unusedVariables false
set_option linter.unusedSimpArgs false
def evc (e : Ev) : List SV := [.i .i64 e.kind, .i .i64 e.style, .b e.flag, .s e.text, .s e.anchor, .s e.tag, .i .i64 e.pos, .i .i64 e.code]
theorem evc_inj {l m : List Ev} : l.map evc = m.map evc ↔ l = m := map_inj fun a b h => by cases a; cases b; simpa [evc] using h
theorem getD_evc (a : List Ev) (i : Nat) : (a.map evc).getD i [.i .i64 0, .i .i64 0, .b false, .s [], .s [], .s [], .i .i64 0, .i .i64 0] = [.i .i64 (a.getD i evz).kind, .i .i64 (a.getD i evz).style, .b (a.getD i evz).flag, .s (a.getD i evz).text, .s (a.getD i evz).anchor, .s (a.getD i evz).tag, .i .i64 (a.getD i evz).pos, .i .i64 (a.getD i evz).code] := getD_map evc a i evz
theorem rowE_ev {a : List Ev} {i : Nat} : rowE evc evz a i = [.i .i64 (a.getD i evz).kind, .i .i64 (a.getD i evz).style, .b (a.getD i evz).flag, .s (a.getD i evz).text, .s (a.getD i evz).anchor, .s (a.getD i evz).tag, .i .i64 (a.getD i evz).pos, .i .i64 (a.getD i evz).code] := id rfl
theorem rowH_ev {μ : Nat → Nat} {r : Bool} {sz n : Nat} {a : List Ev} : SO.mapH μ (.row r sz n (rowE evc evz a)) = .row r sz n (rowE evc evz a) := rowH fun _ => rfl
theorem evEta (e : Ev) : (⟨e.kind, e.style, e.flag, e.text, e.anchor, e.tag, e.pos, e.code⟩ : Ev) = e := id rfl
theorem XRE : type_of% (And.intro (And.intro @getD_evc @rowE_ev) (And.intro @rowH_ev @evEta)) := And.intro (And.intro @getD_evc @rowE_ev) (And.intro @rowH_ev @evEta)
/-- A row that is filled place after place. -/
theorem soLe_fill {μ : Nat → Nat} {α : Type} {enc : α → List SV} {z : α} {xs : List α} {sz n i : Nat} {f : Nat → List SV} (hp : ∀ x, plainL (enc x) = true) (hi : i < xs.length)
    (hf : ∀ j, j < n → f j = if j = i then enc (xs.getD i z) else rowE enc z (xs.take i) j) :
    soLe μ (.row false sz n (rowE enc z (xs.take (i + 1)))) (.row false sz n f) := by
  refine soLe_row fun j hj => ?_
  rw [hf j hj]
  unfold rowE
  rw [mapHL_plain (hp _)]
  have e1 : (xs.take (i + 1)).getD j z = if j < i + 1 then xs.getD j z else z := by
    simp only [List.getD_eq_getElem?_getD, List.getElem?_take]; split <;> rfl
  have e2 : (xs.take i).getD j z = if j < i then xs.getD j z else z := by
    simp only [List.getD_eq_getElem?_getD, List.getElem?_take]; split <;> rfl
  rw [e1, e2]
  by_cases h1 : j = i
  · subst h1; rw [if_pos (by omega), if_pos rfl]
  · rw [if_neg h1]
    by_cases h2 : j < i
    · rw [if_pos (by omega), if_pos h2]
    · rw [if_neg (by omega), if_neg h2]
end Go.Vg
