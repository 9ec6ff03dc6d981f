/- The texts of paths: plain definitions and laws. -/
import Derived.Test.YtjphhddbkjdbnaaDoorBaseE
import Derived.Lib.Join
import Derived.Lib.Replace
import Derived.Lib.CountLaws
import Derived.Lib.IndexBytes
set_option linter.unusedVariables false
set_option linter.unusedSimpArgs false
namespace Go.Pl
set_option linter.unusedVariables false
set_option linter.unusedSimpArgs false
def numW (n : Int) : Bs := if 0 ≤ n ∧ n ≤ 4294967295 then dec n.toNat else []
def isWB (c : UInt8) : Bool := decide ((97 ≤ c.toNat ∧ c.toNat ≤ 122) ∨ (65 ≤ c.toNat ∧ c.toNat ≤ 90) ∨ c.toNat = 95 ∨ c.toNat = 45)
def isDg (c : UInt8) : Bool := decide (48 ≤ c.toNat ∧ c.toNat ≤ 57)
def isW2 (c : UInt8) : Bool := decide ((97 ≤ c.toNat ∧ c.toNat ≤ 122) ∨ (65 ≤ c.toNat ∧ c.toNat ≤ 90) ∨ (48 ≤ c.toNat ∧ c.toNat ≤ 57) ∨ c.toNat = 45)
def bare (s : Bs) : Bool := decide (s ≠ []) && !isDg (s.getD 0 0) && s.all fun c => isWB c || isDg c
def dbl : Bs → Bs
  | [] => []
  | c :: r => if c = 39 then 39 :: 39 :: dbl r else c :: dbl r
def segT (s : Sg) : Bs := if s.kind = 1 then numW s.n else if s.kind = 3 then 64 :: numW s.n else if s.kind = 4 then [42] else if s.kind = 5 then [42, 42] else if bare s.text = true then s.text else 39 :: (dbl s.text ++ [39])
def stepsT (l : List Sg) : Bs := (l.map fun s => 47 :: segT s).flatten
def ptx (l : List Sg) : Bs := if 60 < l.length ∨ sgsOk l = false then [] else if l = [] then [47] else stepsT l
theorem dbl_append : ∀ (a b : Bs), dbl (a ++ b) = dbl a ++ dbl b
  | [], b => rfl
  | c :: a, b => by
    simp only [List.cons_append, dbl, dbl_append a b]
    split <;> rfl
theorem dbl_length : ∀ (a : Bs), (dbl a).length ≤ 2 * a.length
  | [] => by simp [dbl]
  | c :: a => by
    have := dbl_length a
    simp only [dbl]
    split <;> simp only [List.length_cons] <;> omega
open Go.Lib in
theorem index_step (b : UInt8) (l : Bs) : index (b :: l) [39] = if b = 39 then 0 else if index l [39] = -1 then -1 else index l [39] + 1 := by
  rw [index_one, index_one]
  conv => lhs; unfold indexByte
  by_cases h : b = 39
  · subst h; simp
  · have : (b == 39) = false := by simp [h]
    simp [this, h]
open Go.Lib in
theorem rpl_dbl : ∀ (s : Bs), replaceK [39] [39, 39] (count s [39]) s = dbl s
  | [] => by
    have h : index [] [39] = -1 := by rw [index_one]; rfl
    rw [count_miss h]
    rfl
  | b :: l => by
    have ih := rpl_dbl l
    have hs := index_step b l
    by_cases h : b = 39
    · subst h
      rw [if_pos rfl] at hs
      rw [count_hit (i := 0) (by decide) hs, Nat.add_comm, replaceK_hit _ _ _ _ 0 hs]
      simp only [List.take_zero, List.nil_append, List.length_cons, List.length_nil, Nat.zero_add, List.drop_succ_cons, List.drop_zero, dbl]
      rw [ih]; rfl
    · rw [if_neg h] at hs
      by_cases h2 : index l [39] = -1
      · rw [if_pos h2] at hs
        rw [count_miss h2] at ih
        rw [count_miss hs]
        simp only [replaceK] at ih ⊢
        simp only [dbl, if_neg h, ← ih]
      · have hg := index_ge l [39]
        obtain ⟨j, hj⟩ : ∃ j : Nat, index l [39] = j := ⟨(index l [39]).toNat, by omega⟩
        rw [if_neg h2, hj] at hs
        have hs' : index (b :: l) [39] = ((j + 1 : Nat) : Int) := by rw [hs]; rfl
        rw [count_hit (i := j) (by decide) hj, Nat.add_comm, replaceK_hit _ _ _ _ j hj] at ih
        rw [count_hit (i := j + 1) (by decide) hs', Nat.add_comm, replaceK_hit _ _ _ _ (j + 1) hs']
        simp only [List.take_succ_cons, List.length_cons, List.length_nil, Nat.zero_add, List.drop_succ_cons, dbl, if_neg h] at ih ⊢
        rw [← ih]
        simp
theorem rplA_dbl (s : Bs) : Go.Lib.replaceAll s [39] [39, 39] = dbl s := by
  unfold Go.Lib.replaceAll Go.Lib.replace Go.Lib.replaceNum
  rw [if_neg (by decide), if_pos (.inl (by decide))]
  exact rpl_dbl s
theorem stepsT_join : ∀ (l : List Sg), l ≠ [] → 47 :: Go.Lib.join (l.map segT) [47] = stepsT l
  | [], h => absurd rfl h
  | s :: l, _ => by
    rw [List.map_cons, Go.Lib.join_cons]
    simp [stepsT, Go.Lib.joinTail, List.map_map, Function.comp_def]
theorem ptx_join (l : List Sg) (h : ¬ (60 < l.length ∨ sgsOk l = false)) : 47 :: Go.Lib.join (l.map segT) [47] = ptx l := by
  unfold ptx
  rw [if_neg h]
  by_cases h2 : l = []
  · subst h2; rfl
  · rw [if_neg h2, stepsT_join l h2]
theorem dec_len (n : Nat) (h : n ≤ 4294967295) : (dec n).length ≤ 10 := by
  have h1 : ∀ m, m < 10 → (dec m).length = 1 := fun m hm => by rw [dec_eq, if_pos hm]; rfl
  have h2 : ∀ k m, (dec (m / 10)).length ≤ k → (dec m).length ≤ k + 1 := fun k m hk => by
    rw [dec_eq]; split
    · simp
    · simp only [List.length_append, List.length_singleton]; omega
  exact h2 9 n (h2 8 _ (h2 7 _ (h2 6 _ (h2 5 _ (h2 4 _ (h2 3 _ (h2 2 _ (h2 1 _ (Nat.le_of_eq (h1 _ (by omega)))))))))))
theorem numW_len (n : Int) : (numW n).length ≤ 10 := by
  unfold numW; split
  · exact dec_len _ (by omega)
  · simp
theorem segT_len (s : Sg) : (segT s).length ≤ 2 * s.text.length + 11 := by
  have h1 := numW_len s.n
  have h2 := dbl_length s.text
  unfold segT
  repeat' split
  all_goals (try simp only [List.length_cons, List.length_append, List.length_nil])
  all_goals omega
theorem stepsT_len (T : Nat) : ∀ (l : List Sg), (∀ i, i < l.length → (l.getD i sgz).text.length ≤ T) → (stepsT l).length ≤ l.length * (2 * T + 12)
  | [], _ => by simp [stepsT]
  | s :: l, h => by
    have h0 := h 0 (by simp)
    have ih := stepsT_len T l fun i hi => by simpa using h (i + 1) (by simp; omega)
    have h1 := segT_len s
    simp only [List.getD_cons_zero] at h0
    have e : stepsT (s :: l) = 47 :: segT s ++ stepsT l := by simp [stepsT]
    rw [e]
    rw [List.length_append, List.length_cons, List.length_cons, Nat.succ_mul]
    omega
theorem join_len {l : List Sg} {T : Nat} (h : ∀ i, i < l.length → (l.getD i sgz).text.length ≤ T) : (Go.Lib.join (l.map segT) [47]).length ≤ l.length * (2 * T + 12) := by
  have h1 := stepsT_len T l h
  by_cases h2 : l = []
  · subst h2; simp [Go.Lib.join, List.intercalate]
  · rw [← stepsT_join l h2] at h1
    simp only [List.length_cons] at h1
    omega
end Go.Pl
