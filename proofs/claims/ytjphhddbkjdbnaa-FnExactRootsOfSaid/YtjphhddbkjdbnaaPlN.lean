/- Events that are nested, in plain words. -/
import Derived.Test.YtjphhddbkjdbnaaPlE
namespace Go.Pl
set_option linter.unusedVariables false
set_option linter.unusedSimpArgs false
/-- What is open: is it a map, and how many nodes it has; the innermost last. -/
abbrev Stk := List (Bool × Nat)
def tp (o : Stk) : Bool × Nat := o.getD (o.length - 1) (false, 0)
def incr (o : Stk) : Stk := o.set (o.length - 1) ((tp o).1, (tp o).2 + 1)
def pop (o : Stk) : Stk := o.take (o.length - 1)
def kdO (p : Bool × Nat) : Int := if p.1 then 4 else 3
def mnO (p : Bool × Nat) : Int := p.2
def spO (p : Bool × Nat) : Int := if p.1 then p.2 else -1
def ndNode (d : Int) (o : Stk) : Bool × Int × Stk := if o = [] then (decide (d = 1), 2, []) else (true, d, incr o)
def ndEnds (o : Stk) : Bool := !(decide (o = []) || ((tp o).1 && decide ((tp o).2 % 2 ≠ 0)))
def ndEv (d : Int) (o : Stk) (k : Int) : Bool × Int × Stk :=
  if k = 2 then (decide (d = 0), 1, o)
  else if k = 5 ∨ k = 6 then ndNode d o
  else if k = 3 ∨ k = 4 then ((ndNode d o).1, (ndNode d o).2.1, (ndNode d o).2.2 ++ [(decide (k = 4), 0)])
  else if k = 7 then if ndEnds o then (true, d, pop o) else (false, d, o)
  else if k = 8 then (decide (d = 2) && decide (o = []), 0, o)
  else (false, d, o)
def ndRun : List Ev → Int → Stk → Bool
  | [], _, _ => false
  | e :: r, d, o => evOk e && (if e.kind = 10 then r.isEmpty else if e.kind = 9 then r.isEmpty && decide (d = 0) else (ndEv d o e.kind).1 && ndRun r (ndEv d o e.kind).2.1 (ndEv d o e.kind).2.2)
def nested : List Ev → Bool
  | [] => false
  | e :: r => evOk e && decide (e.kind = 1) && ndRun r 0 []
theorem getD_map' {α β : Type} (g : α → β) (l : List α) (j : Nat) (z : α) : (l.map g).getD j (g z) = g (l.getD j z) := by
  simp only [List.getD_eq_getElem?_getD, List.getElem?_map]; cases l[j]? <;> rfl
theorem incr_length {o : Stk} : (incr o).length = o.length := by simp [incr]
theorem pop_length {o : Stk} : (pop o).length = o.length - 1 := by simp [pop]
theorem incr_kd {o : Stk} (h : o ≠ []) : (incr o).map kdO = o.map kdO := by
  have hl : 0 < o.length := List.length_pos_iff.2 h
  unfold incr
  rw [List.map_set]
  apply List.ext_getElem?
  intro j
  rw [List.getElem?_set]
  split
  · rename_i he; subst he
    simp [kdO, tp, List.getD, show o.length - 1 < o.length by omega]
  · rfl
theorem incr_mn {o : Stk} (h : o ≠ []) : (incr o).map mnO = (o.map mnO).set (o.length - 1) (mnO (tp o) + 1) := by
  unfold incr; rw [List.map_set]; simp [mnO]
theorem incr_sp {o : Stk} : (incr o).map spO = if (tp o).1 then (o.map spO).set (o.length - 1) (spO (tp o) + 1) else o.map spO := by
  unfold incr; rw [List.map_set]
  split
  · rename_i h; simp [spO, h]
  · rename_i h
    apply List.ext_getElem?
    intro j
    rw [List.getElem?_set]
    split
    · rename_i he; subst he
      by_cases ho : o.length - 1 < o.length
      · have : tp o = o[o.length - 1] := by simp [tp, List.getD, ho]
        simp [ho]
        rw [← this]
        simp [spO, h]
      · simp [show o = [] from List.length_eq_zero_iff.1 (by omega)]
    · rfl
theorem getD_set' {α : Type} (l : List α) (i j : Nat) (x z : α) (hi : i < l.length) : (l.set i x).getD j z = if j = i then x else l.getD j z := by
  simp only [List.getD_eq_getElem?_getD, List.getElem?_set]
  by_cases h : j = i
  · subst h; simp [hi]
  · rw [if_neg (Ne.symm h), if_neg h]
theorem pop_getD {α : Type} (g : Bool × Nat → α) (o : Stk) (j : Nat) (z : α) (h : j < o.length - 1) : ((pop o).map g).getD j z = (o.map g).getD j z := by
  simp only [pop, List.getD_eq_getElem?_getD, List.getElem?_map, List.getElem?_take, if_pos h]
end Go.Pl
namespace Go.Pl
theorem kd_top {o : Stk} (h : 0 < o.length) : (o.map kdO).getD (o.length - 1) 0 = kdO (tp o) := by
  simp [tp, List.getD, show o.length - 1 < o.length by omega]
theorem mn_top {o : Stk} : (o.map mnO).getD (o.length - 1) 0 = ((tp o).2 : Nat) := getD_map' mnO o (o.length - 1) (false, 0)
theorem sp_top {o : Stk} (h : 0 < o.length) : (o.map spO).getD (o.length - 1) 0 = spO (tp o) := by
  simp [tp, List.getD, show o.length - 1 < o.length by omega]
theorem kdO_4 {p : Bool × Nat} : kdO p = 4 ↔ p.1 = true := by
  unfold kdO; split <;> simp_all
theorem ndEnds_bad {o : Stk} (h : o.length = 0 ∨ (kdO (tp o) = 4 ∧ (tp o).2 % 2 ≠ 0)) : ndEnds o = false := by
  unfold ndEnds
  rcases h with h | h
  · simp [List.length_eq_zero_iff.1 h]
  · rw [kdO_4] at h; simp [h.1]; omega
theorem ndEnds_good {o : Stk} (h : 0 < o.length ∧ (kdO (tp o) ≠ 4 ∨ (tp o).2 % 2 = 0)) : ndEnds o = true := by
  unfold ndEnds
  have h1 : o ≠ [] := List.length_pos_iff.1 h.1
  rcases h.2 with h2 | h2
  · rw [ne_eq, kdO_4] at h2; simp [h1, h2]
  · simp [h1, h2]
theorem pop_row {α : Type} {g : Bool × Nat → α} {o : Stk} {j : Nat} (z : α) (h : j < (pop o).length) : ((pop o).map g).getD j z = (o.map g).getD j z := pop_getD g o j z (by rw [pop_length] at h; exact h)
end Go.Pl
namespace Go.Pl
theorem ndNode_len {d : Int} {o : Stk} : (ndNode d o).2.2.length = o.length := by
  unfold ndNode; split
  · rename_i h; simp [h]
  · exact incr_length
end Go.Pl
namespace Go.Pl
theorem nested_bad {l : List Ev} (h : l.length < 2 ∨ (l.getD 0 evz).kind ≠ 1 ∨ evOk (l.getD 0 evz) = false) : nested l = false := by
  match l with
  | [] => rfl
  | [e] => simp [nested, ndRun]
  | e :: f :: r =>
    simp only [List.getD_cons_zero, List.length_cons] at h
    unfold nested
    rcases h with h | h | h
    · omega
    · simp [h]
    · simp [h]
theorem nested_good {l : List Ev} (h : 2 ≤ l.length ∧ (l.getD 0 evz).kind = 1 ∧ evOk (l.getD 0 evz) = true) : nested l = ndRun (l.drop 1) 0 [] := by
  match l with
  | [] => simp at h
  | e :: r =>
    simp only [List.getD_cons_zero] at h
    simp [nested, h.2.1, h.2.2]
end Go.Pl
namespace Go.Pl
theorem drop_getD {α : Type} (l : List α) (j : Nat) (z : α) (h : j < l.length) : l.drop j = l.getD j z :: l.drop (j + 1) := by
  rw [List.drop_eq_getElem_cons h]
  simp [List.getD, h]
theorem getD_drop {α : Type} (l : List α) (n j : Nat) (z : α) : (l.drop n).getD j z = l.getD (n + j) z := by
  simp only [List.getD_eq_getElem?_getD, List.getElem?_drop]
theorem isEmpty_drop {α : Type} (l : List α) (n : Nat) (h : n ≤ l.length) : (l.drop n).isEmpty = decide ((n : Int) = l.length) := by
  rw [Bool.eq_iff_iff]; simp; omega
theorem ndEv_len {d : Int} {o : Stk} {k : Int} : (ndEv d o k).2.2.length ≤ o.length + 1 := by
  unfold ndEv
  repeat' split
  all_goals simp only [ndNode_len, List.length_append, List.length_singleton, pop_length] <;> omega
theorem tp_append {o : Stk} {x : Bool × Nat} : tp (o ++ [x]) = x := by simp [tp]
end Go.Pl
namespace Go.Pl
def bnd (o : Stk) (n : Nat) : Prop := ∀ j, (o.getD j (false, 0)).2 ≤ n
theorem bnd_nil {n : Nat} : bnd [] n := fun j => by simp
theorem bnd_mono {o : Stk} {n m : Nat} (h : bnd o n) (hm : n ≤ m) : bnd o m := fun j => Nat.le_trans (h j) hm
theorem bnd_tp {o : Stk} {n : Nat} (h : bnd o n) : (tp o).2 ≤ n := h _
theorem bnd_incr {o : Stk} {n : Nat} (h : bnd o n) : bnd (incr o) (n + 1) := fun j => by
  by_cases h0 : o.length = 0
  · rw [List.length_eq_zero_iff.1 h0]; simp [incr]
  · unfold incr
    rw [getD_set' _ _ _ _ _ (by omega)]
    split
    · have := bnd_tp h; simp only; omega
    · exact Nat.le_succ_of_le (h j)
theorem bnd_pop {o : Stk} {n : Nat} (h : bnd o n) : bnd (pop o) n := fun j => by
  unfold pop
  simp only [List.getD_eq_getElem?_getD, List.getElem?_take]
  split
  · have := h j; simpa [List.getD_eq_getElem?_getD] using this
  · simp
theorem bnd_push {o : Stk} {n : Nat} {b : Bool} (h : bnd o n) : bnd (o ++ [(b, 0)]) n := fun j => by
  simp only [List.getD_eq_getElem?_getD, List.getElem?_append]
  split
  · have := h j; simpa [List.getD_eq_getElem?_getD] using this
  · rw [List.getElem?_singleton]; split <;> simp
theorem bnd_node {d : Int} {o : Stk} {n : Nat} (h : bnd o n) : bnd (ndNode d o).2.2 (n + 1) := by
  unfold ndNode; split
  · exact bnd_nil
  · exact bnd_incr h
theorem ndEv_bnd {d : Int} {o : Stk} {k : Int} {n : Nat} (h : bnd o n) : bnd (ndEv d o k).2.2 (n + 1) := by
  unfold ndEv
  repeat' split
  · exact bnd_mono h (Nat.le_succ _)
  · exact bnd_node h
  · exact bnd_push (bnd_node h)
  · exact bnd_mono (bnd_pop h) (Nat.le_succ _)
  · exact bnd_mono h (Nat.le_succ _)
  · exact bnd_mono h (Nat.le_succ _)
  · exact bnd_mono h (Nat.le_succ _)
end Go.Pl
namespace Go.Pl
theorem evOk_kind {e : Ev} (h : evOk e = true) : 1 ≤ e.kind ∧ e.kind ≤ 10 := by
  unfold evOk at h
  simp only [Bool.and_eq_true, decide_eq_true_eq] at h
  exact h.1.1.1.1.1
theorem nested_at {l : List Ev} {i : Nat} {d : Int} {o : Stk} (hi : i < l.length) (hr : if i = 0 then d = 0 ∧ o = [] else ndRun (l.drop i) d o = nested l) :
    ((!evOk (l.getD i evz) || !(decide ((i : Int) = 0) == decide ((l.getD i evz).kind = 1))) = true → nested l = false) ∧
    ((!evOk (l.getD i evz) || !(decide ((i : Int) = 0) == decide ((l.getD i evz).kind = 1))) = false → 1 ≤ (l.getD i evz).kind ∧ (l.getD i evz).kind ≤ 10 ∧ ((l.getD i evz).kind = 1 → ndRun (l.drop (i + 1)) d o = nested l) ∧
      ((l.getD i evz).kind ≠ 1 → nested l = if (l.getD i evz).kind = 10 then decide ((i : Int) = l.length - 1) else if (l.getD i evz).kind = 9 then decide ((i : Int) = l.length - 1) && decide (d = 0) else
        (ndEv d o (l.getD i evz).kind).1 && ndRun (l.drop (i + 1)) (ndEv d o (l.getD i evz).kind).2.1 (ndEv d o (l.getD i evz).kind).2.2)) := by
  have hdr := drop_getD l i evz hi
  have hem := isEmpty_drop l (i + 1) (by omega)
  have he2 : decide (((i + 1 : Nat) : Int) = l.length) = decide ((i : Int) = l.length - 1) := by rw [decide_eq_decide]; omega
  rw [he2] at hem
  have hn0 : i = 0 → nested l = (evOk (l.getD i evz) && decide ((l.getD i evz).kind = 1) && ndRun (l.drop (i + 1)) 0 []) := by
    intro h; subst h
    rw [List.drop_zero] at hdr
    conv => lhs; rw [hdr]
    rfl
  have hn1 : i ≠ 0 → nested l = (evOk (l.getD i evz) && (if (l.getD i evz).kind = 10 then decide ((i : Int) = l.length - 1) else if (l.getD i evz).kind = 9 then decide ((i : Int) = l.length - 1) && decide (d = 0) else (ndEv d o (l.getD i evz).kind).1 && ndRun (l.drop (i + 1)) (ndEv d o (l.getD i evz).kind).2.1 (ndEv d o (l.getD i evz).kind).2.2)) := by
    intro h; rw [if_neg h] at hr; rw [← hr, hdr]; simp only [ndRun, hem]
  have hk : evOk (l.getD i evz) = true → 1 ≤ (l.getD i evz).kind ∧ (l.getD i evz).kind ≤ 10 := evOk_kind
  have hbad : i ≠ 0 → (l.getD i evz).kind = 1 → nested l = false := by
    intro h h1
    rw [hn1 h, h1]
    simp [ndEv]
  clear hdr hem he2
  generalize l.getD i evz = e at *
  refine ⟨fun h => ?_, fun h => ?_⟩
  · by_cases h0 : i = 0
    · rw [hn0 h0]; simp [h0] at h; rcases h with h | h <;> simp [h]
    · by_cases h1 : e.kind = 1
      · exact hbad h0 h1
      · rw [hn1 h0]; simp [h0, h1] at h; simp [h]
  · by_cases h0 : i = 0
    · rw [if_pos h0] at hr
      obtain ⟨rfl, rfl⟩ := hr
      simp [h0] at h
      have := hk h.1
      exact ⟨this.1, this.2, fun _ => by rw [hn0 h0]; simp [h], fun hne => absurd h.2 hne⟩
    · simp [h0] at h
      have := hk h.1
      exact ⟨this.1, this.2, fun h1 => absurd h1 h.2, fun _ => by rw [hn1 h0]; simp [h]⟩
end Go.Pl
namespace Go.Pl
theorem sp_incr_up {o : Stk} (hm : 0 ≤ (o.map spO).getD (o.length - 1) 0) (h : 0 < o.length) (j : Nat) : ((incr o).map spO).getD j 0 = if j = o.length - 1 then (o.map spO).getD (o.length - 1) 0 + 1 else (o.map spO).getD j 0 := by
  rw [sp_top h] at hm ⊢
  have hp : (tp o).1 = true := by
    cases hq : (tp o).1 with
    | true => rfl
    | false => simp [spO, hq] at hm
  rw [incr_sp, if_pos hp, getD_set' _ _ _ _ _ (by simp; omega)]
theorem sp_incr_no {o : Stk} (hm : ¬ 0 ≤ (o.map spO).getD (o.length - 1) 0) (h : 0 < o.length) : (incr o).map spO = o.map spO := by
  rw [sp_top h] at hm
  have hp : ¬ (tp o).1 = true := fun hq => hm (by simp [spO, hq])
  rw [incr_sp, if_neg hp]
theorem ndNode_cons {d : Int} {o : Stk} (h : 0 < o.length) : ndNode d o = (true, d, incr o) := by
  unfold ndNode; rw [if_neg (List.length_pos_iff.1 h)]
theorem ndEnds_sp {o : Stk} (h : 0 < o.length) : ndEnds o = !(decide ((o.map spO).getD (o.length - 1) 0 > 0) && decide (((o.map spO).getD (o.length - 1) 0).tmod 2 = 1)) := by
  rw [sp_top h]
  unfold ndEnds spO
  have h1 : o ≠ [] := List.length_pos_iff.1 h
  have h2 : (((tp o).2 : Nat) : Int).tmod 2 = ((tp o).2 % 2 : Nat) := by rw [Int.tmod_eq_emod_of_nonneg (by omega)]; rfl
  cases hq : (tp o).1 with
  | true =>
    simp only [h1, decide_false, Bool.false_or, Bool.true_and, if_true, h2]
    congr 1
    rw [Bool.eq_iff_iff]
    simp
    omega
  | false => simp [h1]
end Go.Pl
