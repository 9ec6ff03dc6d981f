/- Rows of steps, of truths. -/
import Derived.Test.YtlbahpbnnmgpnaaBaseE
import Derived.Test.YtlbahpbnnmgpnaaPlQ
namespace Go.Vg
open Go.Pl
set_option linter.unusedVariables false
set_option linter.unusedSimpArgs false
def segc (e : Sg) : List SV := [.i .i64 e.kind, .i .i64 e.n, .s e.text]
theorem segc_inj {l m : List Sg} : l.map segc = m.map segc ↔ l = m := map_inj fun a b h => by cases a; cases b; simpa [segc] using h
theorem getD_segc (a : List Sg) (i : Nat) : (a.map segc).getD i [.i .i64 0, .i .i64 0, .s []] = [.i .i64 (a.getD i sgz).kind, .i .i64 (a.getD i sgz).n, .s (a.getD i sgz).text] := getD_map segc a i sgz
theorem rowE_sg {a : List Sg} {i : Nat} : rowE segc sgz a i = [.i .i64 (a.getD i sgz).kind, .i .i64 (a.getD i sgz).n, .s (a.getD i sgz).text] := id rfl
theorem rowH_sg {μ : Nat → Nat} {r : Bool} {sz n : Nat} {a : List Sg} : SO.mapH μ (.row r sz n (rowE segc sgz a)) = .row r sz n (rowE segc sgz a) := rowH fun _ => rfl
theorem sgEta (e : Sg) : (⟨e.kind, e.n, e.text⟩ : Sg) = e := id rfl
theorem XRS : type_of% (And.intro (And.intro @getD_segc @rowE_sg) (And.intro @rowH_sg @sgEta)) := And.intro (And.intro @getD_segc @rowE_sg) (And.intro @rowH_sg @sgEta)
end Go.Vg
namespace Go.Vg
theorem drm {α β : Type} {f : α → β} {l : List α} {i : Nat} : List.drop i (l.map f) = (l.drop i).map f := List.map_drop.symm
theorem tkm {α β : Type} {f : α → β} {l : List α} {i : Nat} : List.take i (l.map f) = (l.take i).map f := List.map_take.symm
theorem tkl {α : Type} {l : List α} : List.take l.length l = l := List.take_length
theorem XSL : type_of% (And.intro (And.intro @drm @tkm) @tkl) := And.intro (And.intro @drm @tkm) @tkl
end Go.Vg
namespace Go.Vg
open Go.Pl
theorem soLe_bools {μ : Nat → Nat} {n : Nat} {f : Nat → List SV} {G : Nat → Bool} (h : ∀ j, j < n → f j = [.b (G j)]) : soLe μ (.row false 1 n (rowE booc false (mkB n G))) (.row false 1 n f) := by
  refine soLe_row fun j hj => ?_
  rw [h j hj]
  simp only [rowE, mkB_get hj, booc]
  rfl
end Go.Vg
