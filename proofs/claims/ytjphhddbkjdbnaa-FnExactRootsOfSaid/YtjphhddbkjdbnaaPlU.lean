/- Where nodes end, in plain words. -/
import Derived.Test.YtjphhddbkjdbnaaPlT
namespace Go.Pl
set_option linter.unusedVariables false
set_option linter.unusedSimpArgs false
def cnE (k : Int) (c : Nat) : Nat := if isColl k then c + 1 else if k = 7 then c - 1 else c
def scB (l : List Ev) (k c : Nat) : Int := if h : k < l.length then (if cnE (l.getD k evz).kind c = 0 then (k : Int) else scB l (k + 1) (cnE (l.getD k evz).kind c)) else -1
termination_by l.length - k
theorem scB_lt {l : List Ev} {k c : Nat} (h : k < l.length) : scB l k c = if cnE (l.getD k evz).kind c = 0 then (k : Int) else scB l (k + 1) (cnE (l.getD k evz).kind c) := by rw [scB, dif_pos h]
theorem scB_ge {l : List Ev} {k c : Nat} (h : ¬ k < l.length) : scB l k c = -1 := by rw [scB, dif_neg h]
theorem stk_coll {l : List Ev} {k : Nat} (h : isColl (l.getD k evz).kind = true) : stk l (k + 1) = stk l k ++ [k] := by simp only [stk]; rw [if_pos h]
theorem stk_end {l : List Ev} {k : Nat} (h : (l.getD k evz).kind = 7) : stk l (k + 1) = (stk l k).take ((stk l k).length - 1) := by
  simp only [stk]; rw [if_neg (by rw [h]; decide), if_pos h]
theorem stk_same {l : List Ev} {k : Nat} (h : ¬ isColl (l.getD k evz).kind = true) (h7 : (l.getD k evz).kind ≠ 7) : stk l (k + 1) = stk l k := by
  simp only [stk]; rw [if_neg h, if_neg h7]
theorem stk_mem_lt {l : List Ev} {k i : Nat} (h : i ∈ stk l k) : i < k := by
  obtain ⟨j, hj, rfl⟩ := List.mem_iff_getElem.1 h
  have := stk_lt (l := l) k j hj
  simpa [List.getD, hj] using this
/-- What has left the stack does not come back, and its end stays. -/
theorem end_stays {l : List Ev} {i m : Nat} (him : i < m) (hi : i ∉ stk l m) : ∀ n, i ∉ stk l (m + n) ∧ endF l (m + n) i = endF l m i
  | 0 => ⟨hi, rfl⟩
  | n + 1 => by
    obtain ⟨h1, h2⟩ := end_stays him hi n
    have hne : i ≠ m + n := by omega
    refine ⟨?_, ?_⟩
    · show i ∉ stk l (m + n + 1)
      by_cases hc : isColl (l.getD (m + n) evz).kind = true
      · rw [stk_coll hc]; simp [h1, hne]
      · by_cases h7 : (l.getD (m + n) evz).kind = 7
        · rw [stk_end h7]; exact fun h => h1 (List.mem_of_mem_take h)
        · rw [stk_same hc h7]; exact h1
    · show endF l (m + n + 1) i = endF l m i
      simp only [endF]
      rw [if_neg hne, if_neg, h2]
      rintro ⟨_, ht⟩
      apply h1
      unfold tops at ht
      split at ht
      · omega
      · rename_i h0
        have : (stk l (m + n)).getD ((stk l (m + n)).length - 1) 0 = i := by omega
        rw [← this]
        rw [List.getD_eq_getElem?_getD, List.getElem?_eq_getElem (by omega)]
        exact List.getElem_mem _
theorem stk_mono {l : List Ev} : ∀ (k p q : Nat), p < q → q < (stk l k).length → (stk l k).getD p 0 < (stk l k).getD q 0
  | 0, p, q, _, h => by simp [stk] at h
  | k + 1, p, q, hpq, h => by
    by_cases hc : isColl (l.getD k evz).kind = true
    · rw [stk_coll hc] at h ⊢
      simp only [List.length_append, List.length_singleton] at h
      by_cases hq : q < (stk l k).length
      · have := stk_mono (l := l) k p q hpq hq
        simp only [List.getD_eq_getElem?_getD, List.getElem?_append_left hq, List.getElem?_append_left (show p < (stk l k).length by omega)] at this ⊢
        exact this
      · have hql : q = (stk l k).length := by omega
        subst hql
        have := stk_lt (l := l) k p (by omega)
        simp only [List.getD_eq_getElem?_getD, List.getElem?_append_left (show p < (stk l k).length by omega)] at this ⊢
        simpa using this
    · by_cases h7 : (l.getD k evz).kind = 7
      · rw [stk_end h7] at h ⊢
        simp only [List.length_take] at h
        have := stk_mono (l := l) k p q hpq (by omega)
        simp only [List.getD_eq_getElem?_getD, List.getElem?_take, if_pos (show p < (stk l k).length - 1 by omega), if_pos (show q < (stk l k).length - 1 by omega)] at this ⊢
        exact this
      · rw [stk_same hc h7] at h ⊢
        exact stk_mono k p q hpq h
end Go.Pl
namespace Go.Pl
theorem end_final {l : List Ev} {i m : Nat} (him : i < m) (hi : i ∉ stk l m) (hm : m ≤ l.length) : endF l l.length i = endF l m i := by
  have := (end_stays him hi (l.length - m)).2
  rwa [show m + (l.length - m) = l.length by omega] at this
theorem open_scan {l : List Ev} (hn : nested l = true) : ∀ (n k i p : Nat), l.length - k ≤ n → k ≤ l.length → i < k → p < (stk l k).length → (stk l k).getD p 0 = i → endF l k i = -1 → scB l k ((stk l k).length - p) = endF l l.length i
  | n, k, i, p, hf, hk, hik, hp, hpi, he => by
    by_cases hlt : k < l.length
    · have hn1 : l.length - (k + 1) < l.length - k := by omega
      rw [scB_lt hlt]
      have hne : i ≠ k := by omega
      by_cases hc : isColl (l.getD k evz).kind = true
      · have h7 : (l.getD k evz).kind ≠ 7 := fun h => by rw [h] at hc; cases hc
        have hcn : cnE (l.getD k evz).kind ((stk l k).length - p) = (stk l (k + 1)).length - p := by
          unfold cnE; rw [if_pos hc, stk_coll hc]; simp; omega
        rw [hcn, if_neg (by rw [stk_coll hc]; simp; omega)]
        refine open_scan hn (n - 1) (k + 1) i p (by omega) (by omega) (by omega) (by rw [stk_coll hc]; simp; omega) ?_ ?_
        · rw [stk_coll hc]
          simp only [List.getD_eq_getElem?_getD, List.getElem?_append_left hp] at hpi ⊢
          exact hpi
        · simp only [endF]; rw [if_neg hne, if_neg (fun h => h7 h.1)]; exact he
      · by_cases h7 : (l.getD k evz).kind = 7
        · have hcn : cnE (l.getD k evz).kind ((stk l k).length - p) = (stk l k).length - p - 1 := by
            unfold cnE; rw [if_neg hc, if_pos h7]
          rw [hcn]
          by_cases hp1 : p + 1 = (stk l k).length
          · have hpt : p = (stk l k).length - 1 := by omega
            rw [if_pos (by omega)]
            have htop : tops (stk l k) = i := by rw [tops_pos (by omega), ← hpt, hpi]
            have he1 : endF l (k + 1) i = k := by simp only [endF]; rw [if_neg hne, if_pos ⟨h7, htop⟩]
            rw [← he1]
            refine (end_final (by omega) ?_ (by omega)).symm
            rw [stk_end h7]
            intro hm
            obtain ⟨j, hj, hji⟩ := List.mem_iff_getElem.1 hm
            simp only [List.length_take] at hj
            have := stk_mono (l := l) k j p (by omega) hp
            rw [hpi] at this
            simp only [List.getElem_take] at hji
            rw [List.getD_eq_getElem?_getD, List.getElem?_eq_getElem (by omega)] at this
            simp only [Option.getD_some, hji] at this
            omega
          · rw [if_neg (by omega)]
            have hD : (stk l k).length - p - 1 = (stk l (k + 1)).length - p := by rw [stk_end h7]; simp; omega
            rw [hD]
            refine open_scan hn (n - 1) (k + 1) i p (by omega) (by omega) (by omega) (by rw [stk_end h7]; simp; omega) ?_ ?_
            · rw [stk_end h7]
              simp only [List.getD_eq_getElem?_getD, List.getElem?_take, if_pos (show p < (stk l k).length - 1 by omega)] at hpi ⊢
              exact hpi
            · simp only [endF]
              rw [if_neg hne, if_neg]
              · exact he
              · rintro ⟨_, ht⟩
                have := stk_mono (l := l) k p ((stk l k).length - 1) (by omega) (by omega)
                rw [tops_pos (by omega)] at ht
                omega
        · have hcn : cnE (l.getD k evz).kind ((stk l k).length - p) = (stk l (k + 1)).length - p := by
            unfold cnE; rw [if_neg hc, if_neg h7, stk_same hc h7]
          rw [hcn, if_neg (by rw [stk_same hc h7]; omega)]
          refine open_scan hn (n - 1) (k + 1) i p (by omega) (by omega) (by omega) (by rw [stk_same hc h7]; exact hp) (by rw [stk_same hc h7]; exact hpi) ?_
          simp only [endF]; rw [if_neg hne, if_neg (fun h => h7 h.1)]; exact he
    · rw [scB_ge hlt, ← he, show l.length = k by omega]
termination_by _ k => l.length - k
theorem end_scan {l : List Ev} (hn : nested l = true) {i : Nat} (hi : i < l.length) : endF l l.length i = if isNode (l.getD i evz).kind then scB l i 0 else -1 := by
  have hlast : ∀ s : List Nat, (∀ j ∈ s, j < i) → i ∉ s := fun s h hm => Nat.lt_irrefl _ (h i hm)
  by_cases hc : isColl (l.getD i evz).kind = true
  · have hnode : isNode (l.getD i evz).kind = true := by unfold isNode; rw [hc]; rfl
    rw [if_pos hnode, scB_lt hi]
    have hcn : cnE (l.getD i evz).kind 0 = 1 := by unfold cnE; rw [if_pos hc]
    rw [hcn, if_neg (by omega)]
    have h1 : (stk l (i + 1)).length - (stk l i).length = 1 := by rw [stk_coll hc]; simp
    have := open_scan hn _ (i + 1) i (stk l i).length (Nat.le_refl _) (by omega) (by omega) (by rw [stk_coll hc]; simp) (by rw [stk_coll hc]; simp) (by simp only [endF, if_true]; rw [hc]; simp)
    rw [h1] at this
    exact this.symm
  · have hni : i ∉ stk l (i + 1) := by
      intro hm
      by_cases h7 : (l.getD i evz).kind = 7
      · rw [stk_end h7] at hm; exact Nat.lt_irrefl _ (stk_mem_lt (List.mem_of_mem_take hm))
      · rw [stk_same hc h7] at hm; exact Nat.lt_irrefl _ (stk_mem_lt hm)
    rw [end_final (by omega) hni (by omega)]
    simp only [endF, if_true]
    have hcf : isColl (l.getD i evz).kind = false := by simpa using hc
    rw [hcf]
    by_cases hnode : isNode (l.getD i evz).kind = true
    · rw [if_pos hnode, if_pos (by rw [hnode]; rfl), scB_lt hi]
      have h7 : (l.getD i evz).kind ≠ 7 := fun h => by rw [h] at hnode; cases hnode
      rw [if_pos (by unfold cnE; rw [if_neg hc, if_neg h7])]
    · rw [if_neg hnode, if_neg (fun h => hnode (by simpa using h))]
end Go.Pl
