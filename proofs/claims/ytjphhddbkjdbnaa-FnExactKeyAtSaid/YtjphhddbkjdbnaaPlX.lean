/- What an alias is, the roots of documents, the nodes in a collection, in plain words. -/
import Derived.Test.YtjphhddbkjdbnaaBaseE
namespace Go.Pl
set_option linter.unusedVariables false
set_option linter.unusedSimpArgs false
theorem ndRun_ok : ∀ (l : List Ev) (d : Int) (o : Stk), ndRun l d o = true → ∀ i, i < l.length → evOk (l.getD i evz) = true
  | [], _, _, _, i, h => by simp at h
  | e :: r, d, o, h, i, hi => by
    simp only [ndRun, Bool.and_eq_true] at h
    obtain ⟨h1, h2⟩ := h
    cases i with
    | zero => exact h1
    | succ i =>
      split at h2
      · rw [List.isEmpty_iff.1 h2] at hi; simp at hi
      · split at h2
        · simp only [Bool.and_eq_true] at h2; rw [List.isEmpty_iff.1 h2.1] at hi; simp at hi
        · simp only [Bool.and_eq_true] at h2
          have := ndRun_ok r _ _ h2.2 i (by simp at hi; omega)
          simpa using this
theorem nested_ok {l : List Ev} (hn : nested l = true) {i : Nat} (hi : i < l.length) : evOk (l.getD i evz) = true := by
  match l, hn with
  | e :: r, hn =>
    simp only [nested, Bool.and_eq_true] at hn
    cases i with
    | zero => exact hn.1.1
    | succ i =>
      have := ndRun_ok r _ _ hn.2 i (by simp at hi; omega)
      simpa using this
theorem nested_len {l : List Ev} (hn : nested l = true) : 2 ≤ l.length := by
  rcases Nat.lt_or_ge l.length 2 with h | h
  · rw [nested_bad (.inl h)] at hn; cases hn
  · exact h
theorem nested_first {l : List Ev} (hn : nested l = true) : (l.getD 0 evz).kind = 1 := by
  by_cases h : (l.getD 0 evz).kind = 1
  · exact h
  · rw [nested_bad (.inr (.inl h))] at hn; cases hn
theorem alias_text {e : Ev} (h : evOk e = true) (h6 : e.kind = 6) : e.text ≠ [] := by
  intro h0
  simp [evOk, h6, h0] at h
theorem docF_le {l : List Ev} : ∀ (n : Nat), 0 < n → docF l n < n
  | 0, h => absurd h (Nat.lt_irrefl _)
  | n + 1, _ => by
    simp only [docF]
    split
    · omega
    · cases n with
      | zero => simp [docF]
      | succ n => have := docF_le (l := l) (n + 1) (by omega); omega
theorem docF_after {l : List Ev} : ∀ (n j : Nat), docF l n < j → j < n → (l.getD j evz).kind ≠ 2
  | 0, j, _, h => absurd h (Nat.not_lt_zero _)
  | n + 1, j, h, hj => by
    simp only [docF] at h
    split at h
    · omega
    · rename_i h2
      by_cases e : j = n
      · subst e; exact h2
      · exact docF_after n j h (by omega)
theorem docF_is {l : List Ev} : ∀ (n : Nat), docF l n = 0 ∨ (l.getD (docF l n) evz).kind = 2
  | 0 => .inl rfl
  | n + 1 => by
    simp only [docF]
    split
    · rename_i h; exact .inr h
    · exact docF_is n
theorem scB_pos {l : List Ev} : ∀ (n k c : Nat) (i : Nat), l.length - k ≤ n → 0 < c → scB l k c = i → (l.getD i evz).kind = 7
  | n, k, c, i, hn, hc, h => by
    by_cases hk : k < l.length
    · rw [scB_lt hk] at h
      split at h
      · rename_i h0
        have : k = i := by omega
        subst this
        unfold cnE at h0
        split at h0
        · omega
        · split at h0
          · rename_i h7; exact h7
          · omega
      · match n, hn with
        | n + 1, hn => exact scB_pos n (k + 1) _ i (by omega) (by omega) h
        | 0, hn => omega
    · rw [scB_ge hk] at h; omega
theorem scB_other {l : List Ev} {k i : Nat} (hki : k ≠ i) (h7 : (l.getD i evz).kind ≠ 7) : scB l k 0 ≠ i := by
  intro h
  by_cases hk : k < l.length
  · rw [scB_lt hk] at h
    split at h
    · omega
    · exact h7 (scB_pos _ _ _ _ (Nat.le_refl _) (by omega) h)
  · rw [scB_ge hk] at h; omega
/-- What the alias at i is, looked for below k. -/
def defS (l : List Ev) (i : Nat) : Nat → Int
  | 0 => -1
  | k + 1 => if (l.getD k evz).kind = 2 then -1 else if isNode (l.getD k evz).kind = true ∧ (l.getD k evz).anchor ≠ [] ∧ (l.getD k evz).anchor = (l.getD i evz).text then (if scB l k 0 < 0 ∨ scB l k 0 > i then -1 else (k : Int)) else defS l i k
def defI (l : List Ev) (i : Nat) (d : Int) : Nat → Int
  | 0 => -1
  | k + 1 => if (k : Int) > d then (if isNode (l.getD k evz).kind = true ∧ (l.getD k evz).anchor = (l.getD i evz).text then (if (endL l).getD k 0 < 0 ∨ (endL l).getD k 0 ≥ i then -1 else (k : Int)) else defI l i d k) else -1
theorem endL_get {l : List Ev} (hn : nested l = true) {k : Nat} (hk : k < l.length) : (endL l).getD k 0 = if isNode (l.getD k evz).kind then scB l k 0 else -1 := by
  unfold endL
  rw [mkR_get hk, end_scan hn hk]
theorem def_eq {l : List Ev} (hn : nested l = true) {i : Nat} (hi : i < l.length) (h6 : (l.getD i evz).kind = 6) : ∀ k, k ≤ i → defI l i (docF l (i + 1) : Nat) k = if docF l (i + 1) < k then defS l i k else -1
  | 0, _ => by simp [defI]
  | k + 1, hk => by
    have ht := alias_text (nested_ok hn hi) h6
    simp only [defI, defS]
    by_cases hd : docF l (i + 1) < k
    · have h2 := docF_after (l := l) (i + 1) k hd (by omega)
      rw [if_pos (show (k : Int) > ((docF l (i + 1) : Nat) : Int) by omega), if_pos (show docF l (i + 1) < k + 1 by omega), if_neg h2]
      by_cases ha : isNode (l.getD k evz).kind = true ∧ (l.getD k evz).anchor = (l.getD i evz).text
      · have ha' : isNode (l.getD k evz).kind = true ∧ (l.getD k evz).anchor ≠ [] ∧ (l.getD k evz).anchor = (l.getD i evz).text := ⟨ha.1, by rw [ha.2]; exact ht, ha.2⟩
        rw [if_pos ha, if_pos ha', endL_get hn (by omega), if_pos ha.1]
        have := scB_other (l := l) (k := k) (i := i) (by omega) (by rw [h6]; decide)
        by_cases hs : scB l k 0 < 0 ∨ scB l k 0 > i
        · rw [if_pos hs, if_pos (by omega)]
        · rw [if_neg hs, if_neg (by omega)]
      · have ha' : ¬ (isNode (l.getD k evz).kind = true ∧ (l.getD k evz).anchor ≠ [] ∧ (l.getD k evz).anchor = (l.getD i evz).text) := fun h => ha ⟨h.1, h.2.2⟩
        rw [if_neg ha, if_neg ha', def_eq hn hi h6 k (by omega), if_pos hd]
    · rw [if_neg (by omega)]
      split
      · have hk : k = docF l (i + 1) := by omega
        rcases docF_is (l := l) (i + 1) with h0 | h0
        · rw [h0] at hk
          subst hk
          have h1 := nested_first hn
          rw [if_neg (by omega), if_neg (by rw [h1]; simp [isNode, isColl])]
          rfl
        · rw [← hk] at h0
          rw [if_pos h0]
      · rfl
theorem defS_low {l : List Ev} (hn : nested l = true) {i : Nat} : ∀ k, k ≤ docF l (i + 1) → True := fun _ _ => trivial
/-- What an alias is. -/
theorem def_same {l : List Ev} (hn : nested l = true) {i : Nat} (hi : i < l.length) (h6 : (l.getD i evz).kind = 6) : defI l i (docF l (i + 1) : Nat) i = defS l i i := by
  rw [def_eq hn hi h6 i (Nat.le_refl _)]
  split
  · rfl
  · rename_i h
    have h1 : docF l (i + 1) = docF l i := by simp only [docF]; rw [if_neg (by omega)]
    have h0 : i = 0 := by
      rcases Nat.eq_zero_or_pos i with h2 | h2
      · exact h2
      · have := docF_le (l := l) i h2; omega
    subst h0
    have := nested_first hn
    omega
/-- The roots of documents. -/
def isRoot (l : List Ev) (i : Nat) : Bool := decide (0 < i) && decide ((l.getD (i - 1) evz).kind = 2) && isNode (l.getD i evz).kind
def rootsTo (l : List Ev) : Nat → List Int
  | 0 => []
  | i + 1 => if isRoot l i then rootsTo l i ++ [(i : Int)] else rootsTo l i
theorem rootsTo_len {l : List Ev} : ∀ n, (rootsTo l n).length ≤ n
  | 0 => Nat.le_refl _
  | n + 1 => by
    simp only [rootsTo]
    split
    · have := rootsTo_len (l := l) n; simp; omega
    · have := rootsTo_len (l := l) n; omega
end Go.Pl
namespace Go.Pl
theorem scB_range {l : List Ev} : ∀ (n k c : Nat), l.length - k ≤ n → 0 ≤ scB l k c → (k : Int) ≤ scB l k c ∧ scB l k c < l.length
  | n, k, c, hn, h => by
    by_cases hk : k < l.length
    · rw [scB_lt hk] at h ⊢
      split
      · omega
      · rename_i h0
        rw [if_neg h0] at h
        match n, hn with
        | n + 1, hn => have := scB_range n (k + 1) _ (by omega) h; omega
        | 0, hn => omega
    · rw [scB_ge hk] at h; omega
/-- The nodes from k on, as far as they stand one behind the other. -/
def kidsF (l : List Ev) (k : Nat) : List Int :=
  if h : k < l.length ∧ isNode (l.getD k evz).kind = true then (k : Int) :: (if h2 : scB l k 0 < 0 then [] else kidsF l ((scB l k 0).toNat + 1)) else []
termination_by l.length - k
decreasing_by
  have := scB_range (l := l) (l.length - k) k 0 (Nat.le_refl _) (by omega)
  omega
theorem kidsF_no {l : List Ev} {k : Nat} (h : ¬ (k < l.length ∧ isNode (l.getD k evz).kind = true)) : kidsF l k = [] := by rw [kidsF, dif_neg h]
theorem kidsF_last {l : List Ev} {k : Nat} (h : k < l.length ∧ isNode (l.getD k evz).kind = true) (h2 : scB l k 0 < 0) : kidsF l k = [(k : Int)] := by rw [kidsF, dif_pos h, dif_pos h2]
theorem kidsF_next {l : List Ev} {k : Nat} (h : k < l.length ∧ isNode (l.getD k evz).kind = true) (h2 : ¬ scB l k 0 < 0) : kidsF l k = (k : Int) :: kidsF l ((scB l k 0).toNat + 1) := by rw [kidsF, dif_pos h, dif_neg h2]
def kidsV (l : List Ev) (i : Nat) : List Int := if isColl (l.getD i evz).kind then kidsF l (i + 1) else []
theorem kidsF_len {l : List Ev} : ∀ (n k : Nat), l.length - k ≤ n → (kidsF l k).length ≤ l.length - k
  | n, k, hn => by
    by_cases h : k < l.length ∧ isNode (l.getD k evz).kind = true
    · by_cases h2 : scB l k 0 < 0
      · rw [kidsF_last h h2]; simp; omega
      · rw [kidsF_next h h2]
        have hr := scB_range (l := l) (l.length - k) k 0 (Nat.le_refl _) (by omega)
        match n, hn with
        | n + 1, hn => have := kidsF_len (l := l) n ((scB l k 0).toNat + 1) (by omega); simp; omega
        | 0, hn => omega
    · rw [kidsF_no h]; exact Nat.zero_le _
theorem kidsF_mem {l : List Ev} : ∀ (n k : Nat), l.length - k ≤ n → ∀ x ∈ kidsF l k, (k : Int) ≤ x ∧ x < l.length
  | n, k, hn => by
    intro x hx
    by_cases h : k < l.length ∧ isNode (l.getD k evz).kind = true
    · by_cases h2 : scB l k 0 < 0
      · rw [kidsF_last h h2] at hx; simp at hx; omega
      · rw [kidsF_next h h2] at hx
        have hr := scB_range (l := l) (l.length - k) k 0 (Nat.le_refl _) (by omega)
        simp only [List.mem_cons] at hx
        rcases hx with hx | hx
        · omega
        · match n, hn with
          | n + 1, hn => have := kidsF_mem (l := l) n ((scB l k 0).toNat + 1) (by omega) x hx; omega
          | 0, hn => omega
    · rw [kidsF_no h] at hx; simp at hx
theorem defS_lt {l : List Ev} {i : Nat} : ∀ k, defS l i k < k
  | 0 => by simp [defS]
  | k + 1 => by
    simp only [defS]
    repeat' split
    · omega
    · omega
    · omega
    · have := defS_lt (l := l) (i := i) k; omega
/-- The text of a place, if it is one of text. -/
def txtV (l : List Ev) (j : Nat) : Bs := if (l.getD j evz).kind = 5 then (l.getD j evz).text else []
def keyV (l : List Ev) (i : Nat) : Bs := if (l.getD i evz).kind = 6 then (if defS l i i < 0 then [] else txtV l (defS l i i).toNat) else txtV l i
theorem upB_lt {l : List Ev} : ∀ (k c : Nat), upB l k c < k
  | 0, c => by simp [upB]
  | k + 1, c => by
    simp only [upB]
    repeat' split
    all_goals first | omega | (have h1 := upB_lt (l := l) k (c + 1); omega) | (have h1 := upB_lt (l := l) k (c - 1); omega) | (have h1 := upB_lt (l := l) k c; omega)
/-- The last of some places that is not behind i. -/
def lastK (ks : List Int) (i : Int) : Nat → Int
  | 0 => -1
  | k + 1 => if ks.getD k 0 > i then lastK ks i k else k
def lastS (ks : List Int) (i : Int) : Nat → Int
  | 0 => -1
  | 1 => 0
  | k + 2 => if ks.getD (k + 1) 0 > i then lastS ks i (k + 1) else ((k + 1 : Nat) : Int)
theorem last_same {ks : List Int} {i : Int} (h : ks.getD 0 0 ≤ i) : ∀ n, lastS ks i n = lastK ks i n
  | 0 => rfl
  | 1 => by simp only [lastS, lastK]; rw [if_neg (by omega)]; rfl
  | k + 2 => by
    simp only [lastS]
    rw [lastK]
    split
    · exact last_same h (k + 1)
    · rfl
theorem lastK_lt {ks : List Int} {i : Int} : ∀ n, -1 ≤ lastK ks i n ∧ lastK ks i n < n
  | 0 => by simp [lastK]
  | k + 1 => by
    simp only [lastK]
    split
    · have := lastK_lt (ks := ks) (i := i) k; omega
    · omega
end Go.Pl
namespace Go.Pl
open Go.Pl
end Go.Pl
namespace Go.Pl
def rootsN (l : List Ev) (i : Nat) : List Int := if nested l = true then rootsTo l i else []
theorem rootsN_zero {l : List Ev} : rootsN l 0 = [] := by unfold rootsN; split <;> rfl
theorem rootsN_len {l : List Ev} (n : Nat) : (rootsN l n).length ≤ n := by
  unfold rootsN
  split
  · exact rootsTo_len n
  · exact Nat.zero_le _
end Go.Pl
namespace Go.Pl
theorem rootsN_no {l : List Ev} (h : ¬ nested l = true) (n : Nat) : rootsN l n = [] := by unfold rootsN; rw [if_neg h]
theorem rootsN_yes {l : List Ev} (h : nested l = true) (n : Nat) : rootsN l n = rootsTo l n := by unfold rootsN; rw [if_pos h]
theorem rootsN_same {l : List Ev} {i : Nat} (h : ¬ (isRoot l i = true ∧ nested l = true)) : rootsN l (i + 1) = rootsN l i := by
  unfold rootsN
  split
  · rename_i h1
    simp only [rootsTo]
    rw [if_neg fun h2 => h ⟨h2, h1⟩]
  · rfl
theorem rootsN_more {l : List Ev} {i : Nat} (h : isRoot l i = true ∧ nested l = true) : rootsN l (i + 1) = rootsN l i ++ [(i : Int)] := by
  unfold rootsN
  rw [if_pos h.2, if_pos h.2]
  simp only [rootsTo]
  rw [if_pos h.1]
end Go.Pl
namespace Go.Pl
theorem kidsN_len {l : List Ev} (i : Int) : (if nested l = true then (if 0 ≤ i ∧ i < l.length then kidsV l i.toNat else []) else []).length ≤ l.length := by
  split
  · split
    · unfold kidsV
      split
      · have := kidsF_len (l := l) _ (i.toNat + 1) (Nat.le_refl _); omega
      · exact Nat.zero_le _
    · exact Nat.zero_le _
  · exact Nat.zero_le _
end Go.Pl
