/- Own text: part VgF. -/
import Derived.Test.YtjphhddbkjdbnaaVgE
import Derived.Laws.Append
namespace Go.Vg
set_option linter.unusedVariables false
set_option linter.unusedSimpArgs false
open Go.RowKit

theorem row_core {P : Program} {A : Amb} {σ : Asg} {st : St} {a : Act} {w : World} (hR : Rel A σ st a w) {elem : TypeId} {cells : Array Value} {sz n cap : Nat} {f : Nat → List SV}
    (hcs : cells.size = cap * sz) (hn : n ≤ cap) (hc : ∀ i k, i < n → k < sz → ∃ v, cells[i * sz + k]? = some v ∧ rel σ ((f i).getD k .u) v) :
    ∃ σ' w', (newRow elem cells).run P w = .ok ⟨w.heap.size, 0, none⟩ w' ∧ leA σ σ' ∧ rel σ' (.slc st.ctx.length 0 n) (.slice (some ⟨w.heap.size, 0, none⟩) n cap) ∧ Rel A σ' (newRowS st sz n f) a w' := by
  have hq : σ st.ctx.length = none := hR.sat.beyond _ (Nat.le_refl _)
  obtain ⟨h1, h2⟩ := hR.alloc (.cells cells elem) (.row false sz n f) ⟨w.heap.size, 0, cells.size, sz⟩ rfl
    (objSat_new rfl rfl (by simp only [SO.n, SO.sz, hcs]; exact Nat.mul_le_mul_right _ hn) hc hq)
  refine ⟨_, _, ?_, h1, ?_, h2⟩
  · simp [newRow]
  · simp only [rel]
    exact ⟨_, _, rfl, hn, .inr ⟨⟨w.heap.size, 0, cells.size, sz⟩, by simp [updA], by simp [addrOf], by simp [hcs]⟩⟩

theorem add_none (b off j : Nat) : (⟨b, off, none⟩ : Addr).add j = ⟨b, off + j, none⟩ := by
  unfold Addr.add
  split
  · rename_i h; simp [h]
  · rfl

theorem cell?_of {w : World} {b off : Nat} {c : Array Value} {e : TypeId} {fr : Nat × Nat} (h : w.heap[b]? = some (.cells c e fr)) : w.cell? ⟨b, off, none⟩ = c[off]? := by
  simp [World.cell?, h]

theorem run_loadFrom {P : Program} {w : World} {b off : Nat} {c : Array Value} {e : TypeId} {fr : Nat × Nat} (h : w.heap[b]? = some (.cells c e fr)) :
    ∀ (vs : List Value) (i : Nat) (acc : Array Value), (∀ (j : Nat) (v : Value), vs[j]? = some v → c[off + i + j]? = some v) → (loadCellsFrom ⟨b, off, none⟩ i vs.length acc).run P w = .ok (acc ++ vs.toArray) w
  | [], i, acc, _ => by simp [loadCellsFrom]
  | v :: vs, i, acc, hv => by
    have h0 := hv 0 v rfl
    simp only [List.length_cons, loadCellsFrom, Sem.run_bind, run_load, add_none, cell?_of h]
    rw [show off + i + 0 = off + i from rfl] at h0
    simp only [h0, Result.andThen_ok]
    rw [run_loadFrom h vs (i + 1) (acc.push v) (fun j u hj => by
      have := hv (j + 1) u (by simpa using hj)
      rw [show off + (i + 1) + j = off + i + (j + 1) by omega]; exact this)]
    simp

theorem run_loadCells {P : Program} {w : World} {b off : Nat} {c : Array Value} {e : TypeId} {fr : Nat × Nat} (h : w.heap[b]? = some (.cells c e fr))
    (vs : List Value) (hv : ∀ (j : Nat) (v : Value), vs[j]? = some v → c[off + j]? = some v) : (loadCells ⟨b, off, none⟩ vs.length).run P w = .ok vs.toArray w := by
  unfold loadCells
  rw [run_loadFrom h vs 0 #[] (by simpa using hv)]
  simp

/-- The cells of a stretch of an object, as a list. -/
theorem cells_list {σ : Asg} {w : World} {L : Loc} {o : SO} {c : Array Value} {e : TypeId} {fr : Nat × Nat} (h : cellsAt σ w L o c e fr) {i k n : Nat} (hi : i < o.n) (hk : k + n ≤ o.sz) :
    ∃ vs : List Value, vs.length = n ∧ (∀ (j : Nat) (v : Value), vs[j]? = some v → c[L.sh + i * L.sz + k + j]? = some v) ∧ ∀ (j : Nat) (v : Value), vs[j]? = some v → rel σ ((o.el i).getD (k + j) .u) v := by
  induction n with
  | zero => exact ⟨[], rfl, by simp, by simp⟩
  | succ n ih =>
    obtain ⟨vs, h1, h2, h3⟩ := ih (by omega)
    obtain ⟨v, h4, h5⟩ := h.cell i (k + n) hi (by omega)
    rw [← h.lsz] at h4
    refine ⟨vs ++ [v], by simp [h1], fun j u hj => ?_, fun j u hj => ?_⟩
    · rw [List.getElem?_append] at hj
      split at hj
      · exact h2 j u hj
      · have : j - vs.length = 0 := by
          rcases Nat.eq_zero_or_pos (j - vs.length) with h0 | h0
          · exact h0
          · rw [List.getElem?_eq_none (by simp; omega)] at hj; cases hj
        rw [this] at hj
        simp at hj
        subst hj
        have hjn : j = n := by omega
        subst hjn
        rw [show L.sh + i * L.sz + k + j = L.sh + i * L.sz + (k + j) by omega]
        exact h4
    · rw [List.getElem?_append] at hj
      split at hj
      · exact h3 j u hj
      · have : j - vs.length = 0 := by
          rcases Nat.eq_zero_or_pos (j - vs.length) with h0 | h0
          · exact h0
          · rw [List.getElem?_eq_none (by simp; omega)] at hj; cases hj
        rw [this] at hj
        simp at hj
        subst hj
        have hjn : j = n := by omega
        subst hjn
        exact h5

def okLeaf : SV → Bool
  | .b _ | .i _ _ | .s _ | .ptr _ _ _ | .slc _ _ _ | .nils | .mp _ | .fn _ | .fs _ _ | .fp _ _ => true
  | _ => false

theorem okLeaf_one {σ : Asg} {x : SV} {v : Value} (h : okLeaf x = true) (hr : rel σ x v) : v.oneCell' = true := by
  cases x <;> simp only [okLeaf, Bool.false_eq_true] at h <;> simp only [rel] at hr
  case b => subst hr; rfl
  case i => subst hr; rfl
  case s => subst hr; rfl
  case ptr => obtain ⟨_, _, rfl⟩ := hr; rfl
  case slc => obtain ⟨_, _, rfl, _⟩ := hr; rfl
  case nils => subst hr; rfl
  case mp => obtain ⟨_, _, rfl⟩ := hr; rfl
  case fn => subst hr; rfl
  case fs => obtain ⟨_, _, rfl, _⟩ := hr; rfl
  case fp => obtain ⟨_, _, _, _, _, rfl, _⟩ := hr; rfl

/-- Cells of an array written one behind the other. -/
def setAll (c : Array Value) (off : Nat) : List Value → Array Value
  | [] => c
  | v :: vs => setAll (c.setIfInBounds off v) (off + 1) vs

theorem setAll_size (c : Array Value) : ∀ (vs : List Value) (off : Nat), (setAll c off vs).size = c.size
  | [], _ => rfl
  | v :: vs, off => by simp [setAll, setAll_size _ vs]

theorem setAll_get : ∀ (vs : List Value) (c : Array Value) (off x : Nat), off + vs.length ≤ c.size → (setAll c off vs)[x]? = if off ≤ x ∧ x < off + vs.length then vs[x - off]? else c[x]?
  | [], c, off, x, _ => by
    simp only [setAll, List.length_nil]
    rw [if_neg (by omega)]
  | v :: vs, c, off, x, h => by
    simp only [List.length_cons] at h
    simp only [setAll]
    rw [setAll_get vs _ (off + 1) x (by simp; omega)]
    simp only [List.length_cons]
    by_cases h1 : off + 1 ≤ x ∧ x < off + 1 + vs.length
    · rw [if_pos h1, if_pos (by omega)]
      obtain ⟨y, hy⟩ : ∃ y, x - off = y + 1 := ⟨x - off - 1, by omega⟩
      rw [hy, List.getElem?_cons_succ, show x - (off + 1) = y by omega]
    · rw [if_neg h1, Array.getElem?_setIfInBounds]
      by_cases h2 : off = x
      · subst h2
        rw [if_pos rfl, if_pos (by omega)]
        simp
      · rw [if_neg h2, if_neg (by omega)]

theorem run_storeCells {P : Program} {b off : Nat} {e : TypeId} {fr : Nat × Nat} : ∀ (vs : List Value) (i : Nat) (w : World) (c : Array Value), w.heap[b]? = some (.cells c e fr) →
    (∀ v ∈ vs, v.oneCell' = true) → off + i + vs.length ≤ c.size → (∀ x, x < c.size → ¬ (fr.1 ≤ x ∧ x < fr.2)) →
    (storeCells ⟨b, off, none⟩ vs i).run P w = .ok () { w with heap := w.heap.setIfInBounds b (.cells (setAll c (off + i) vs) e fr) }
  | [], i, w, c, h, _, _, _ => by
    simp only [storeCells, setAll, Sem.run_pure]
    congr 1
    have hb : b < w.heap.size := by
      rcases Nat.lt_or_ge b w.heap.size with h1 | h1
      · exact h1
      · rw [Array.getElem?_eq_none h1] at h; cases h
    have : w.heap.setIfInBounds b (.cells c e fr) = w.heap := by
      apply Array.ext_getElem?
      intro j
      rw [Array.getElem?_setIfInBounds]
      split
      · rename_i hj; subst hj; rw [h]
      · rfl
    rw [this]
  | v :: vs, i, w, c, h, hv, hl, hf => by
    simp only [List.length_cons] at hl
    have hb : b < w.heap.size := by
      rcases Nat.lt_or_ge b w.heap.size with h1 | h1
      · exact h1
      · rw [Array.getElem?_eq_none h1] at h; cases h
    have hc : w.cell? ⟨b, off + i, none⟩ = some c[off + i] := by rw [cell?_of h]; exact Array.getElem?_eq_getElem (by omega)
    have hfz : w.frozen? ⟨b, off + i, none⟩ = false := by
      have := hf (off + i) (by omega)
      simp only [World.frozen?, h]
      simpa using this
    simp only [storeCells, Sem.run_bind, add_none]
    rw [run_store P w _ v .plain (hv v (by simp)), hc]
    simp only [hfz, Bool.false_eq_true, if_false, Result.andThen_ok]
    have hset : (w.setCell ⟨b, off + i, none⟩ v).heap[b]? = some (.cells (c.setIfInBounds (off + i) v) e fr) := by
      simp only [World.setCell, Array.getElem?_modify, h, if_true]
      simp
    rw [run_storeCells vs (i + 1) (w.setCell ⟨b, off + i, none⟩ v) _ hset (fun u hu => hv u (by simp [hu])) (by simp; omega) (by simpa using hf)]
    congr 1
    simp only [World.setCell, setAll]
    congr 1
    apply Array.ext_getElem?
    intro j
    simp only [Array.getElem?_setIfInBounds, Array.size_modify, Array.getElem?_modify]
    by_cases hj : b = j
    · subst hj; simp [hb, Nat.add_assoc]
    · simp [hj]

end Go.Vg
