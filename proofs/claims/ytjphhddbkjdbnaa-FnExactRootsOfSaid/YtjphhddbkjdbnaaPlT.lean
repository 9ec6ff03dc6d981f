/- The tree of nested events, in plain words. -/
import Derived.Test.YtjphhddbkjdbnaaPlN
import Derived.Test.YtjphhddbkjdbnaaVgA
namespace Go.Pl
set_option linter.unusedVariables false
set_option linter.unusedSimpArgs false
def isColl (k : Int) : Bool := decide (k = 3) || decide (k = 4)
def isNode (k : Int) : Bool := isColl k || decide (k = 5) || decide (k = 6)
/-- What is open before a place: the places of the collections around it, the innermost last. -/
def stk (l : List Ev) : Nat → List Nat
  | 0 => []
  | k + 1 => if isColl (l.getD k evz).kind then stk l k ++ [k] else if (l.getD k evz).kind = 7 then (stk l k).take ((stk l k).length - 1) else stk l k
def tops (s : List Nat) : Int := if s.length = 0 then -1 else s.getD (s.length - 1) 0
def docF (l : List Ev) : Nat → Nat
  | 0 => 0
  | k + 1 => if (l.getD k evz).kind = 2 then k else docF l k
def endF (l : List Ev) : Nat → Nat → Int
  | 0, _ => 0
  | k + 1, j => if j = k then (if isNode (l.getD k evz).kind && !isColl (l.getD k evz).kind then (k : Int) else -1) else if (l.getD k evz).kind = 7 ∧ tops (stk l k) = j then (k : Int) else endF l k j
def mkR (n : Nat) (f : Nat → Int) : List Int := (List.range n).map f
def endL (l : List Ev) : List Int := mkR l.length (endF l l.length)
def upL (l : List Ev) : List Int := mkR l.length fun j => tops (stk l j)
def docL (l : List Ev) : List Int := mkR l.length fun j => (docF l (j + 1) : Nat)
theorem mkR_length {n : Nat} {f : Nat → Int} : (mkR n f).length = n := by simp [mkR]
theorem mkR_get {n : Nat} {f : Nat → Int} {j : Nat} (h : j < n) : (mkR n f).getD j 0 = f j := by simp [mkR, List.getD, h]
end Go.Pl
namespace Go.Pl
theorem ndEnds_pos {o : Stk} (h : ndEnds o = true) : 0 < o.length := by
  unfold ndEnds at h
  simp at h
  exact List.length_pos_iff.2 h.1
theorem ndEv_stk {d : Int} {o : Stk} {s : List Nat} {k : Int} {i : Nat} (h : (ndEv d o k).1 = true) (hl : o.length = s.length) :
    (ndEv d o k).2.2.length = (if isColl k then s ++ [i] else if k = 7 then s.take (s.length - 1) else s).length := by
  unfold ndEv at h ⊢
  unfold isColl
  by_cases h2 : k = 2
  · simp [h2, hl]
  by_cases h5 : k = 5 ∨ k = 6
  · rw [if_neg h2, if_pos h5, if_neg (by simp; omega), if_neg (by omega), ndNode_len, hl]
  by_cases h3 : k = 3 ∨ k = 4
  · rw [if_neg h2, if_neg h5, if_pos h3, if_pos (by simp; omega)]; simp [ndNode_len, hl]
  have hc : (decide (k = 3) || decide (k = 4)) = false := by simp; omega
  simp only [h2, h5, h3, hc, if_false, Bool.false_eq_true] at h ⊢
  by_cases h7 : k = 7
  · simp only [h7, if_true] at h ⊢
    cases he : ndEnds o with
    | true => simp [pop_length, hl]
    | false => rw [he] at h; simp at h
  · simp only [h7, if_false] at h ⊢
    by_cases h8 : k = 8
    · simp only [h8, if_true]; exact hl
    · simp only [h8, if_false] at h; cases h
theorem run_stk {l : List Ev} : ∀ (n k : Nat) (d : Int) (o : Stk), l.length - k ≤ n → ndRun (l.drop k) d o = true → o.length = (stk l k).length → ∀ m, k ≤ m → m < l.length → (l.getD m evz).kind = 7 → 0 < (stk l m).length
  | 0, k, d, o, hn, hr, hl, m, h1, h2, h3 => by omega
  | n + 1, k, d, o, hn, hr, hl, m, h1, h2, h3 => by
    rw [drop_getD l k evz (by omega)] at hr
    simp only [ndRun, Bool.and_eq_true] at hr
    obtain ⟨_, hr⟩ := hr
    by_cases h10 : (l.getD k evz).kind = 10
    · rw [if_pos h10] at hr
      have : l.length ≤ k + 1 := by simpa using hr
      obtain rfl : m = k := by omega
      rw [h10] at h3; cases h3
    rw [if_neg h10] at hr
    by_cases h9 : (l.getD k evz).kind = 9
    · rw [if_pos h9] at hr
      simp only [Bool.and_eq_true] at hr
      have : l.length ≤ k + 1 := by simpa using hr.1
      obtain rfl : m = k := by omega
      rw [h9] at h3; cases h3
    rw [if_neg h9] at hr
    simp only [Bool.and_eq_true] at hr
    by_cases hm : m = k
    · subst hm
      have := hr.1
      rw [h3] at this
      simp only [ndEv, Int.reduceEq, if_false, or_self, if_true] at this
      split at this
      · rename_i he; have := ndEnds_pos he; omega
      · cases this
    · exact run_stk n (k + 1) _ _ (by omega) hr.2 (ndEv_stk hr.1 hl) m (by omega) h2 h3
theorem nested_end {l : List Ev} (h : nested l = true) {m : Nat} (h2 : m < l.length) (h3 : (l.getD m evz).kind = 7) : 0 < (stk l m).length := by
  match l, h with
  | e :: r, h =>
    simp only [nested, Bool.and_eq_true, decide_eq_true_eq] at h
    have h1 : 1 ≤ m := by
      rcases Nat.eq_zero_or_pos m with h0 | h0
      · subst h0; simp only [List.getD_cons_zero] at h3; omega
      · exact h0
    exact run_stk (l := e :: r) _ 1 0 [] (Nat.le_refl _) h.2 (by simp [stk, isColl, h.1.2]) m h1 h2 h3
theorem stk_lt {l : List Ev} : ∀ (k j : Nat), j < (stk l k).length → (stk l k).getD j 0 < k
  | 0, j, h => by simp [stk] at h
  | k + 1, j, h => by
    simp only [stk] at h ⊢
    split at h
    · rename_i hc
      rw [if_pos hc]
      simp only [List.length_append, List.length_singleton] at h
      by_cases hj : j < (stk l k).length
      · have := stk_lt k j hj
        simp only [List.getD_eq_getElem?_getD, List.getElem?_append_left hj] at this ⊢
        omega
      · have : j = (stk l k).length := by omega
        subst this; simp
    · rename_i hc
      rw [if_neg hc]
      split at h
      · rename_i h7
        rw [if_pos h7]
        simp only [List.length_take] at h
        have := stk_lt (l := l) k j (by omega)
        simp only [List.getD_eq_getElem?_getD, List.getElem?_take, if_pos (show j < (stk l k).length - 1 by omega)] at this ⊢
        omega
      · rename_i h7
        rw [if_neg h7]
        have := stk_lt k j h
        omega
end Go.Pl
namespace Go.Pl
theorem tops_pos {s : List Nat} (h : 0 < s.length) : tops s = s.getD (s.length - 1) 0 := by unfold tops; rw [if_neg (by omega)]
theorem tops_nil {s : List Nat} (h : ¬ 0 < s.length) : tops s = -1 := by unfold tops; rw [if_pos (by omega)]
end Go.Pl
namespace Go.Pl
theorem stk_len {l : List Ev} : ∀ (k : Nat), (stk l k).length ≤ k
  | 0 => by simp [stk]
  | k + 1 => by
    have := stk_len (l := l) k
    simp only [stk]
    split
    · simp; omega
    · split
      · simp; omega
      · omega
end Go.Pl
namespace Go.Pl
theorem take_row {α β : Type} {g : α → β} {s : List α} {m j : Nat} (z : β) (h : j < (s.take m).length) : ((s.take m).map g).getD j z = (s.map g).getD j z := by
  have h' : j < m := by simp at h; omega
  simp only [List.getD_eq_getElem?_getD, List.getElem?_map, List.getElem?_take, if_pos h']
theorem pop_ends {K : Int} {t : Int} {i j : Nat} {e : Int} {A : Int → Go.Vg.SV} (hK : K = 7) (h0 : 0 ≤ t) (h1 : t < i) :
    (if j = t.toNat then (if j = i then [A (-1)] else [A e]).set 0 (A i) else if j = i then [A (-1)] else [A e]) = [A (if j = i then (if (isNode K && !isColl K) = true then (i : Int) else -1) else if K = 7 ∧ t = j then (i : Int) else e)] := by
  subst hK
  have hn7 : (isNode 7 && !isColl 7) = false := by decide
  rw [hn7]
  by_cases hji : j = i
  · rw [if_neg (by omega), if_pos hji, if_pos hji]; rfl
  · by_cases ht : t = j
    · rw [if_pos (by omega), if_neg hji, if_neg hji, if_pos ⟨rfl, ht⟩]; rfl
    · rw [if_neg (by omega), if_neg hji, if_neg hji, if_neg (fun h => ht h.2)]
theorem ups_nil {s : Nat → List Nat} {i j : Nat} {A : Int → Go.Vg.SV} (h : ¬ 0 < (s i).length) : (if j = i then [A (-1)] else [A (if j < i then tops (s j) else 0)]) = [A (if j < i + 1 then tops (s j) else 0)] := by
  by_cases hji : j = i
  · subst hji; rw [if_pos rfl, if_pos (by omega), tops_nil h]
  · rw [if_neg hji]
    by_cases hlt : j < i
    · rw [if_pos hlt, if_pos (by omega)]
    · rw [if_neg hlt, if_neg (by omega)]
end Go.Pl
namespace Go.Pl
theorem ups_some {s : Nat → List Nat} {i j : Nat} {A : Int → Go.Vg.SV} {G e : Int} (h : G = tops (s i)) : (if j = i then (if j = i then [A (-1)] else [A e]).set 0 (A G) else if j = i then [A (-1)] else [A (if j < i then tops (s j) else 0)]) = [A (if j < i + 1 then tops (s j) else 0)] := by
  by_cases hji : j = i
  · subst hji; rw [if_pos rfl, if_pos rfl, if_pos (by omega), h]; rfl
  · rw [if_neg hji, if_neg hji]
    by_cases hlt : j < i
    · rw [if_pos hlt, if_pos (by omega)]
    · rw [if_neg hlt, if_neg (by omega)]
end Go.Pl
namespace Go.Pl
theorem push_ends {K : Int} {t : Int} {i j : Nat} {e : Int} {A : Int → Go.Vg.SV} (hK : isColl K = true) :
    (if j = i then [A (-1)] else [A e]) = [A (if j = i then (if (isNode K && !isColl K) = true then (i : Int) else -1) else if K = 7 ∧ t = j then (i : Int) else e)] := by
  have h7 : K ≠ 7 := by rintro rfl; exact absurd hK (by decide)
  rw [hK]
  by_cases hji : j = i
  · rw [if_pos hji, if_pos hji, if_neg (by simp)]
  · rw [if_neg hji, if_neg hji, if_neg (fun h => h7 h.1)]
end Go.Pl
namespace Go.Pl
def upB (l : List Ev) : Nat → Nat → Int
  | 0, _ => -1
  | k + 1, c => if (l.getD k evz).kind = 7 then upB l k (c + 1) else if isColl (l.getD k evz).kind then (if c = 0 then (k : Int) else upB l k (c - 1)) else upB l k c
theorem upB_stk {l : List Ev} : ∀ (k c : Nat), (∀ m, m < k → (l.getD m evz).kind = 7 → 0 < (stk l m).length) → upB l k c = if c < (stk l k).length then (((stk l k).getD ((stk l k).length - 1 - c) 0 : Nat) : Int) else -1
  | 0, c, _ => by simp [upB, stk]
  | k + 1, c, h => by
    have ih := fun c => upB_stk (l := l) k c (fun m hm => h m (by omega))
    simp only [upB]
    by_cases h7 : (l.getD k evz).kind = 7
    · have hp := h k (by omega) h7
      have hc : ¬ isColl (l.getD k evz).kind = true := by rw [h7]; decide
      have hs : stk l (k + 1) = (stk l k).take ((stk l k).length - 1) := by simp only [stk]; rw [if_neg hc, if_pos h7]
      rw [if_pos h7, ih, hs, List.length_take]
      by_cases hlt : c + 1 < (stk l k).length
      · rw [if_pos hlt, if_pos (by omega)]
        have e1 : min ((stk l k).length - 1) (stk l k).length - 1 - c = (stk l k).length - 1 - (c + 1) := by omega
        rw [e1]
        simp only [List.getD_eq_getElem?_getD, List.getElem?_take, if_pos (show (stk l k).length - 1 - (c + 1) < (stk l k).length - 1 by omega)]
      · rw [if_neg hlt, if_neg (by omega)]
    · rw [if_neg h7]
      by_cases hc : isColl (l.getD k evz).kind = true
      · have hs : stk l (k + 1) = stk l k ++ [k] := by simp only [stk]; rw [if_pos hc]
        rw [if_pos hc, hs, List.length_append, List.length_singleton]
        by_cases h0 : c = 0
        · subst h0; rw [if_pos rfl, if_pos (by omega)]; simp
        · rw [if_neg h0, ih]
          by_cases hlt : c - 1 < (stk l k).length
          · rw [if_pos hlt, if_pos (by omega)]
            have e1 : (stk l k).length + 1 - 1 - c = (stk l k).length - 1 - (c - 1) := by omega
            rw [e1]
            simp only [List.getD_eq_getElem?_getD, List.getElem?_append_left (show (stk l k).length - 1 - (c - 1) < (stk l k).length by omega)]
          · rw [if_neg hlt, if_neg (by omega)]
      · have hs : stk l (k + 1) = stk l k := by simp only [stk]; rw [if_neg hc, if_neg h7]
        rw [if_neg hc, hs]
        exact ih c
theorem tops_up {l : List Ev} (hn : nested l = true) {k : Nat} (hk : k ≤ l.length) : tops (stk l k) = upB l k 0 := by
  rw [upB_stk k 0 (fun m hm h7 => nested_end hn (by omega) h7)]
  unfold tops
  by_cases h : (stk l k).length = 0
  · rw [if_pos h, if_neg (by omega)]
  · rw [if_neg h, if_pos (by omega)]; simp
end Go.Pl
