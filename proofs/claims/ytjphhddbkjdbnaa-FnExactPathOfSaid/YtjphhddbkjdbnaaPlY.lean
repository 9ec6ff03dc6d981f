/- Paths of places, in plain words. -/
import Derived.Test.YtjphhddbkjdbnaaPlX
import Derived.Test.YtjphhddbkjdbnaaPlQ
namespace Go.Pl
set_option linter.unusedVariables false
set_option linter.unusedSimpArgs false
theorem upB_coll {l : List Ev} : ∀ (k c : Nat), 0 ≤ upB l k c → isColl (l.getD (upB l k c).toNat evz).kind = true
  | 0, c, h => by simp [upB] at h
  | k + 1, c, h => by
    simp only [upB] at h ⊢
    split
    · rename_i h1; rw [if_pos h1] at h; exact upB_coll k _ h
    · rename_i h1
      rw [if_neg h1] at h
      split
      · rename_i h2
        rw [if_pos h2] at h
        split
        · exact h2
        · rename_i h3; rw [if_neg h3] at h; exact upB_coll k _ h
      · rename_i h2; rw [if_neg h2] at h; exact upB_coll k _ h
theorem end_iff {l : List Ev} (hn : nested l = true) {i u : Nat} (hi : i < l.length) (hu : upB l i 0 = u) : scB l u 0 = i ↔ (l.getD i evz).kind = 7 := by
  have hlt := upB_lt (l := l) i 0
  have hc := upB_coll (l := l) i 0 (by omega)
  rw [hu] at hlt hc
  simp only [Int.toNat_natCast] at hc
  constructor
  · intro h
    by_cases h7 : (l.getD i evz).kind = 7
    · exact h7
    · exact absurd h (scB_other (by omega) h7)
  · intro h7
    have ht := tops_up hn (k := i) (by omega)
    rw [hu] at ht
    have hp := nested_end hn hi h7
    have hs := stk_end (l := l) (k := i) h7
    have hlast : (stk l i).getD ((stk l i).length - 1) 0 = u := by
      rw [tops_pos hp] at ht; omega
    have hnot : u ∉ stk l (i + 1) := by
      rw [hs]
      intro hm
      obtain ⟨j, hj, he⟩ := List.mem_iff_getElem.1 hm
      simp only [List.length_take] at hj
      have h1 := stk_mono (l := l) i j ((stk l i).length - 1) (by omega) (by omega)
      rw [hlast] at h1
      have h2 : (stk l i).getD j 0 = u := by
        rw [← he]
        simp [List.getD, show j < (stk l i).length by omega]
      omega
    have hf := end_final (l := l) (i := u) (m := i + 1) (by omega) hnot (by omega)
    have he : endF l (i + 1) u = i := by
      simp only [endF]
      rw [if_neg (by omega), if_pos ⟨h7, by rw [ht]⟩]
    have hsc := end_scan hn (i := u) (by omega)
    rw [hf, he, if_pos (by unfold isNode; rw [hc]; rfl)] at hsc
    exact hsc.symm
theorem kidsF_head {l : List Ev} (k : Nat) : (kidsF l k).getD 0 0 ≤ k := by
  by_cases h : k < l.length ∧ isNode (l.getD k evz).kind = true
  · by_cases h2 : scB l k 0 < 0
    · rw [kidsF_last h h2]; simp
    · rw [kidsF_next h h2]; simp
  · rw [kidsF_no h]; simp
theorem kidsV_head {l : List Ev} {u i : Nat} (h : u < i) : (kidsV l u).getD 0 0 ≤ i := by
  unfold kidsV
  split
  · have := kidsF_head (l := l) (u + 1); omega
  · simp
theorem kidsV_len {l : List Ev} (u : Nat) : (kidsV l u).length ≤ l.length := by
  unfold kidsV
  split
  · have := kidsF_len (l := l) _ (u + 1) (Nat.le_refl _); omega
  · exact Nat.zero_le _
theorem kidsV_get {l : List Ev} {u j : Nat} (h : j < (kidsV l u).length) : 0 ≤ (kidsV l u).getD j 0 ∧ (kidsV l u).getD j 0 < l.length := by
  have hm : (kidsV l u).getD j 0 ∈ kidsV l u := getD_mem h
  generalize (kidsV l u).getD j 0 = x at *
  unfold kidsV at hm
  split at hm
  · have := kidsF_mem (l := l) _ (u + 1) (Nat.le_refl _) x hm; omega
  · simp at hm
/-- The step that stands for the k-th node in a collection. -/
def stepK (l : List Ev) (u : Nat) (k : Int) : Sg :=
  if (l.getD u evz).kind = 3 then ⟨1, k, []⟩ else if k.tmod 2 = 0 then ⟨3, k.tdiv 2, []⟩ else ⟨2, 0, keyV l ((kidsV l u).getD (k - 1).toNat 0).toNat⟩
def stepO (l : List Ev) (u i : Nat) : Option Sg :=
  if (l.getD i evz).kind = 7 then none else if lastK (kidsV l u) i (kidsV l u).length < 0 then none else some (stepK l u (lastK (kidsV l u) i (kidsV l u).length))
def pathV (l : List Ev) (i : Nat) : List Sg :=
  if h : upB l i 0 < 0 then [] else pathV l (upB l i 0).toNat ++ (stepO l (upB l i 0).toNat i).toList
termination_by i
decreasing_by
  have := upB_lt (l := l) i 0
  omega
theorem pathV_none {l : List Ev} {i : Nat} (h : upB l i 0 < 0) : pathV l i = [] := by rw [pathV, dif_pos h]
theorem pathV_some {l : List Ev} {i : Nat} (h : ¬ upB l i 0 < 0) : pathV l i = pathV l (upB l i 0).toNat ++ (stepO l (upB l i 0).toNat i).toList := by rw [pathV, dif_neg h]
theorem pathV_len {l : List Ev} : ∀ (n i : Nat), i ≤ n → (pathV l i).length ≤ i
  | n, i, hn => by
    by_cases h : upB l i 0 < 0
    · rw [pathV_none h]; exact Nat.zero_le _
    · rw [pathV_some h]
      have hlt := upB_lt (l := l) i 0
      have hs : (stepO l (upB l i 0).toNat i).toList.length ≤ 1 := by cases stepO l (upB l i 0).toNat i <;> simp
      match n, hn with
      | n + 1, hn => have := pathV_len (l := l) n (upB l i 0).toNat (by omega); simp only [List.length_append]; omega
      | 0, hn => omega
end Go.Pl
namespace Go.Pl
theorem lastS_stop {ks : List Int} {i : Int} {k : Nat} (h : ¬ (0 < k ∧ ks.getD k 0 > i)) : lastS ks i (k + 1) = k := by
  cases k with
  | zero => rfl
  | succ k => simp only [lastS]; rw [if_neg (fun h1 => h ⟨by omega, h1⟩)]
theorem lastS_go {ks : List Int} {i : Int} {k : Nat} (h : 0 < k ∧ ks.getD k 0 > i) : lastS ks i (k + 1) = lastS ks i k := by
  cases k with
  | zero => omega
  | succ k => simp only [lastS]; rw [if_pos h.2]
end Go.Pl
namespace Go.Pl
theorem pathN_len {l : List Ev} (i : Int) : (if nested l = true then (if 0 ≤ i ∧ i < l.length then pathV l i.toNat else []) else []).length ≤ l.length := by
  split
  · split
    · have := pathV_len (l := l) _ i.toNat (Nat.le_refl _); omega
    · exact Nat.zero_le _
  · exact Nat.zero_le _
end Go.Pl
