/- Aliases that are tied, and whole streams, in plain words. -/
import Derived.Test.YtjphhddbkjdbnaaPlX
import Derived.Test.YtjphhddbkjdbnaaPlV
namespace Go.Pl
set_option linter.unusedVariables false
set_option linter.unusedSimpArgs false
/-- The last place below i, in the same document, whose anchor is t. -/
def lastA (l : List Ev) (t : Bs) : Nat → Int
  | 0 => -1
  | i + 1 => if (l.getD i evz).kind = 2 then -1 else if (l.getD i evz).kind ≠ 6 ∧ (l.getD i evz).anchor ≠ [] ∧ (l.getD i evz).anchor = t then (i : Int) else lastA l t i
theorem lastA_lt {l : List Ev} {t : Bs} : ∀ i, -1 ≤ lastA l t i ∧ lastA l t i < i
  | 0 => by simp [lastA]
  | i + 1 => by
    simp only [lastA]
    have := lastA_lt (l := l) (t := t) i
    repeat' split
    all_goals omega
theorem anchor_node {e : Ev} (h : evOk e = true) (ha : e.anchor ≠ []) : isNode e.kind = true ∧ e.kind ≠ 6 := by
  by_cases h3 : e.kind = 3 ∨ e.kind = 4 ∨ e.kind = 5
  · rcases h3 with h3 | h3 | h3 <;> rw [h3] <;> exact ⟨rfl, by decide⟩
  · simp [evOk, ha, h3] at h
theorem lastA_node {l : List Ev} (hn : nested l = true) {t : Bs} : ∀ i, i ≤ l.length → 0 ≤ lastA l t i → isNode (l.getD (lastA l t i).toNat evz).kind = true
  | 0, _, h => by simp [lastA] at h
  | i + 1, hi, h => by
    simp only [lastA] at h ⊢
    split
    · rename_i h1; rw [if_pos h1] at h; omega
    · rename_i h1
      rw [if_neg h1] at h
      split
      · rename_i h2
        exact (anchor_node (nested_ok hn (by omega)) h2.2.1).1
      · rename_i h2
        rw [if_neg h2] at h
        exact lastA_node hn i (by omega) h
theorem defS_last {l : List Ev} (hn : nested l = true) {i : Nat} (hi : i < l.length) : ∀ k, k ≤ i → defS l i k = if lastA l (l.getD i evz).text k < 0 then -1 else if scB l (lastA l (l.getD i evz).text k).toNat 0 < 0 ∨ scB l (lastA l (l.getD i evz).text k).toNat 0 > i then -1 else lastA l (l.getD i evz).text k
  | 0, _ => by simp [defS, lastA]
  | k + 1, hk => by
    have hok := nested_ok hn (show k < l.length by omega)
    simp only [defS]
    by_cases h2 : (l.getD k evz).kind = 2
    · have e : lastA l (l.getD i evz).text (k + 1) = -1 := by simp only [lastA]; rw [if_pos h2]
      rw [if_pos h2, e, if_pos (by omega)]
    · rw [if_neg h2]
      by_cases ha : (l.getD k evz).anchor ≠ [] ∧ (l.getD k evz).anchor = (l.getD i evz).text
      · have hx := anchor_node hok ha.1
        have e : lastA l (l.getD i evz).text (k + 1) = k := by simp only [lastA]; rw [if_neg h2, if_pos ⟨hx.2, ha⟩]
        rw [if_pos ⟨hx.1, ha⟩, e, if_neg (show ¬ ((k : Nat) : Int) < 0 by omega), Int.toNat_natCast]
      · have e : lastA l (l.getD i evz).text (k + 1) = lastA l (l.getD i evz).text k := by simp only [lastA]; rw [if_neg h2, if_neg (fun h => ha h.2)]
        rw [if_neg (fun h => ha h.2), e]
        exact defS_last hn hi k (by omega)
/-- What the places are aliases of. -/
def defD (l : List Ev) (i : Nat) : Int :=
  if (l.getD i evz).kind = 6 then (if 0 ≤ lastA l (l.getD i evz).text i ∧ 0 ≤ (endL l).getD (lastA l (l.getD i evz).text i).toNat 0 ∧ (endL l).getD (lastA l (l.getD i evz).text i).toNat 0 < i then lastA l (l.getD i evz).text i else -1) else -1
theorem defD_eq {l : List Ev} (hn : nested l = true) {i : Nat} (hi : i < l.length) (h6 : (l.getD i evz).kind = 6) : defD l i = defS l i i := by
  have hlt := lastA_lt (l := l) (t := (l.getD i evz).text) i
  rw [defS_last hn hi i (Nat.le_refl _)]
  unfold defD
  rw [if_pos h6]
  have hnode := lastA_node hn (t := (l.getD i evz).text) i (by omega)
  generalize lastA l (l.getD i evz).text i = a at *
  by_cases ha : a < 0
  · rw [if_pos ha, if_neg (by omega)]
  · obtain ⟨k, rfl⟩ := Int.eq_ofNat_of_zero_le (show 0 ≤ a by omega)
    rw [Int.toNat_natCast] at hnode ⊢
    rw [if_neg ha, endL_get hn (by omega), if_pos (hnode (by omega))]
    have := scB_other (l := l) (k := k) (i := i) (by omega) (by rw [h6]; decide)
    by_cases hs : scB l k 0 < 0 ∨ scB l k 0 > i
    · rw [if_pos hs, if_neg (by omega)]
    · rw [if_neg hs, if_pos (by omega)]
/-- All aliases below n are of something. -/
def tiedTo (l : List Ev) : Nat → Bool
  | 0 => true
  | i + 1 => tiedTo l i && !(decide ((l.getD i evz).kind = 6) && decide (defS l i i < 0))
def tiedV (l : List Ev) : Bool := nested l && tiedTo l l.length
theorem tiedTo_bad {l : List Ev} {i : Nat} (h6 : (l.getD i evz).kind = 6) (hd : defS l i i < 0) : ∀ n, i < n → tiedTo l n = false
  | 0, h => absurd h (Nat.not_lt_zero _)
  | n + 1, h => by
    simp only [tiedTo]
    by_cases e : i = n
    · subst e; rw [decide_eq_true h6, decide_eq_true hd]; simp
    · rw [tiedTo_bad h6 hd n (by omega)]; rfl
theorem ndRun_fault : ∀ (l : List Ev) (d : Int) (o : Stk), ndRun l d o = true → ∀ i, i < l.length → (l.getD i evz).kind = 10 → i + 1 = l.length
  | [], _, _, _, i, h, _ => by simp at h
  | e :: r, d, o, h, i, hi, h10 => by
    simp only [ndRun, Bool.and_eq_true] at h
    obtain ⟨h1, h2⟩ := h
    cases i with
    | zero =>
      simp only [List.getD_cons_zero] at h10
      rw [if_pos h10] at h2
      rw [List.isEmpty_iff.1 h2]; rfl
    | succ i =>
      simp only [List.getD_cons_succ] at h10
      split at h2
      · rw [List.isEmpty_iff.1 h2] at hi; simp at hi
      · split at h2
        · simp only [Bool.and_eq_true] at h2; rw [List.isEmpty_iff.1 h2.1] at hi; simp at hi
        · simp only [Bool.and_eq_true] at h2
          have := ndRun_fault r _ _ h2.2 i (by simp at hi; omega) h10
          simp only [List.length_cons]; omega
theorem nested_fault {l : List Ev} (hn : nested l = true) {i : Nat} (hi : i < l.length) (h10 : (l.getD i evz).kind = 10) : i + 1 = l.length := by
  match l, hn with
  | e :: r, hn =>
    simp only [nested, Bool.and_eq_true, decide_eq_true_eq] at hn
    cases i with
    | zero => simp only [List.getD_cons_zero] at h10; omega
    | succ i =>
      have := ndRun_fault r _ _ hn.2 i (by simp at hi; omega) (by simpa using h10)
      simp only [List.length_cons]; omega
def hasF (l : List Ev) : Bool := l.any fun e => decide (e.kind = 10)
theorem hasF_last {l : List Ev} (hn : nested l = true) : hasF l = decide ((l.getD (l.length - 1) evz).kind = 10) := by
  have hl := nested_len hn
  unfold hasF
  rw [Bool.eq_iff_iff, List.any_eq_true, decide_eq_true_eq]
  constructor
  · rintro ⟨e, he, h⟩
    obtain ⟨j, hj, rfl⟩ := List.mem_iff_getElem.1 he
    rw [decide_eq_true_eq] at h
    have h2 : (l.getD j evz).kind = 10 := by simp [List.getD, hj, h]
    have := nested_fault hn hj h2
    rw [show l.length - 1 = j by omega]
    exact h2
  · intro h
    refine ⟨l.getD (l.length - 1) evz, getD_mem (by omega), by rw [decide_eq_true_eq]; exact h⟩
theorem tied_last {l : List Ev} (h : tiedV l = true) : nested l = true := by
  unfold tiedV at h
  simp only [Bool.and_eq_true] at h
  exact h.1
end Go.Pl
namespace Go.Pl
/-- The place of the first fault from i on. -/
def fstF (l : List Ev) (i : Nat) : Int := if h : i < l.length then (if (l.getD i evz).kind = 10 then (i : Int) else fstF l (i + 1)) else -1
termination_by l.length - i
theorem fstF_no {l : List Ev} {i : Nat} (h : ¬ i < l.length) : fstF l i = -1 := by rw [fstF, dif_neg h]
theorem fstF_yes {l : List Ev} {i : Nat} (h : i < l.length) : fstF l i = if (l.getD i evz).kind = 10 then (i : Int) else fstF l (i + 1) := by rw [fstF, dif_pos h]
theorem fstF_has {l : List Ev} : ∀ (n i : Nat), l.length - i ≤ n → decide (0 ≤ fstF l i) = (l.drop i).any fun e => decide (e.kind = 10)
  | n, i, hn => by
    by_cases h : i < l.length
    · have hd : l.drop i = l.getD i evz :: l.drop (i + 1) := by
        rw [List.drop_eq_getElem_cons h]
        simp [List.getD, h]
      rw [fstF_yes h, hd, List.any_cons]
      by_cases h10 : (l.getD i evz).kind = 10
      · rw [if_pos h10, decide_eq_true h10, Bool.true_or, decide_eq_true (by omega)]
      · match n, hn with
        | n + 1, hn => rw [if_neg h10, decide_eq_false h10, Bool.false_or, fstF_has n (i + 1) (by omega)]
        | 0, hn => omega
    · rw [fstF_no h, List.drop_of_length_le (by omega)]; rfl
end Go.Pl
