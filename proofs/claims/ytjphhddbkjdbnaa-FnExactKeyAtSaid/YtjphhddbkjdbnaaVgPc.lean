/- Rows of pieces. -/
import Derived.Test.YtjphhddbkjdbnaaBaseE
import Derived.Test.YtjphhddbkjdbnaaVgCv
namespace Go.Vg
open Go.Pl
set_option linter.unusedVariables false
set_option linter.unusedSimpArgs false
def pcc (e : Pc) : List SV := [.s e.text, .b e.glue]
theorem pcc_inj {l m : List Pc} : l.map pcc = m.map pcc ↔ l = m := map_inj fun a b h => by cases a; cases b; simpa [pcc] using h
theorem getD_pcc (a : List Pc) (i : Nat) : (a.map pcc).getD i [.s [], .b false] = [.s (a.getD i pcz).text, .b (a.getD i pcz).glue] := getD_map pcc a i pcz
theorem rowE_pc {a : List Pc} {i : Nat} : rowE pcc pcz a i = [.s (a.getD i pcz).text, .b (a.getD i pcz).glue] := id rfl
theorem rowH_pc {μ : Nat → Nat} {r : Bool} {sz n : Nat} {a : List Pc} : SO.mapH μ (.row r sz n (rowE pcc pcz a)) = .row r sz n (rowE pcc pcz a) := rowH fun _ => rfl
theorem pcEta (e : Pc) : (⟨e.text, e.glue⟩ : Pc) = e := id rfl
theorem XRP : type_of% (And.intro (And.intro @getD_pcc @rowE_pc) (And.intro @rowH_pc @pcEta)) := And.intro (And.intro @getD_pcc @rowE_pc) (And.intro @rowH_pc @pcEta)
theorem bytc_inj' {l m : List UInt8} : l.map bytc = m.map bytc ↔ l = m := map_inj fun a b h => by simp only [bytc, List.cons.injEq, SV.i.injEq, and_true, true_and] at h; exact UInt8.toNat_inj.1 (by omega)
theorem fsBytes_bytc (l : List UInt8) : fsBytes (l.map bytc) = l := by
  unfold fsBytes
  rw [List.map_map]
  conv => rhs; rw [← List.map_id l]
  apply List.map_congr_left
  intro x _
  simp [bytc]
theorem rowList_push {α : Type} {enc : α → List SV} {z : α} {xs : List α} {y : α} {sz : Nat} {f : Nat → List SV} (hf : ∀ j, j < xs.length → f j = rowE enc z xs j) (hl : (enc y).length = sz) :
    rowList (catF xs.length f fun j => litEl (enc y) sz j) 0 (xs.length + 1) = (xs ++ [y]).map enc := by
  rw [← rowE_list (enc := enc) (z := z) (xs := xs ++ [y]) (n := xs.length + 1) (by simp)]
  unfold rowList
  apply List.map_congr_left
  intro j hj
  rw [Nat.zero_add]
  exact rowE_push rfl hf hl (by simpa using hj)
theorem soLe_pushC {μ : Nat → Nat} {α : Type} {enc : α → List SV} {z : α} (xs : List α) (y : α) (sz : Nat) {f : Nat → List SV} {cs : List SV} (hp : ∀ x, plainL (enc x) = true) (hf : ∀ j, j < xs.length → f j = rowE enc z xs j) (hy : cs = enc y) (hl : (enc y).length = sz) :
    soLe μ (.row false sz (xs.length + 1) (rowE enc z (xs ++ [y]))) (.row false sz (xs.length + 1) (catF xs.length f fun j => litEl cs sz j)) := by
  subst hy
  refine soLe_row fun j hj => ?_
  rw [rowE_push (z := z) rfl hf hl hj]
  exact mapHL_plain (hp _)
theorem rowList_pushC {α : Type} {enc : α → List SV} (z : α) (xs : List α) (y : α) (sz : Nat) {f : Nat → List SV} {cs : List SV} (hf : ∀ j, j < xs.length → f j = rowE enc z xs j) (hy : cs = enc y) (hl : (enc y).length = sz) :
    rowList (catF xs.length f fun j => litEl cs sz j) 0 (xs.length + 1) = (xs ++ [y]).map enc := by
  subst hy; exact rowList_push (z := z) hf hl
theorem catF_plain {α : Type} {enc : α → List SV} (z : α) (xs : List α) (y : α) (sz : Nat) {f : Nat → List SV} {cs : List SV} (hp : ∀ x, plainL (enc x) = true) (hf : ∀ j, j < xs.length → f j = rowE enc z xs j) (hy : cs = enc y) (hl : ∀ x, (enc x).length = sz) :
    ∀ j, j < xs.length + 1 → (catF xs.length f (fun j => litEl cs sz j) j).length = sz ∧ plainL (catF xs.length f (fun j => litEl cs sz j) j) = true := by
  intro j hj
  subst hy
  rw [rowE_push (z := z) rfl hf (hl y) hj]
  exact ⟨hl _, hp _⟩
theorem rowBytes_bytc (l : List UInt8) : rowBytes (rowE bytc 0 l) 0 l.length = l := by
  apply List.ext_getElem (by simp [rowBytes])
  intro j h1 h2
  simp [rowBytes, rowE, bytc, List.getD, h2]
theorem isU8_bytc (l : List UInt8) (j : Nat) : isU8 (SV.i .u8 ((l.getD j 0).toNat : Int)) = true := rfl
theorem soLe_app {μ : Nat → Nat} {α : Type} {enc : α → List SV} {z : α} (xs ys : List α) (sz : Nat) {f g : Nat → List SV} (hp : ∀ x, plainL (enc x) = true) (hf : ∀ j, j < xs.length → f j = rowE enc z xs j) (hg : ∀ j, j < ys.length → g j = rowE enc z ys j) :
    soLe μ (.row false sz (xs ++ ys).length (rowE enc z (xs ++ ys))) (.row false sz (xs.length + ys.length) (catF xs.length f g)) := by
  refine soLe_row' (by simp) fun j hj => ?_
  rw [rowE_app (z := z) rfl rfl hf hg (by simpa using hj)]
  exact mapHL_plain (hp _)
end Go.Vg
