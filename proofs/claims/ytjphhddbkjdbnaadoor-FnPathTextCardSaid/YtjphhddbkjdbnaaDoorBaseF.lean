/- The texts of paths: plain definitions and laws. -/
import Derived.Test.YtjphhddbkjdbnaaDoorBaseE
import Derived.Lib.Join
import Derived.Lib.Replace
import Derived.Lib.CountLaws
import Derived.Lib.IndexBytes
section
set_option linter.unusedVariables false
set_option linter.unusedSimpArgs false
namespace Go.Pl
set_option linter.unusedVariables false
set_option linter.unusedSimpArgs false
def numW (n : Int) : Bs := if 0 ≤ n ∧ n ≤ 4294967295 then dec n.toNat else []
def isWB (c : UInt8) : Bool := decide ((97 ≤ c.toNat ∧ c.toNat ≤ 122) ∨ (65 ≤ c.toNat ∧ c.toNat ≤ 90) ∨ c.toNat = 95 ∨ c.toNat = 45)
def isDg (c : UInt8) : Bool := decide (48 ≤ c.toNat ∧ c.toNat ≤ 57)
def isW2 (c : UInt8) : Bool := decide ((97 ≤ c.toNat ∧ c.toNat ≤ 122) ∨ (65 ≤ c.toNat ∧ c.toNat ≤ 90) ∨ (48 ≤ c.toNat ∧ c.toNat ≤ 57) ∨ c.toNat = 45)
def bare (s : Bs) : Bool := decide (s ≠ []) && !isDg (s.getD 0 0) && s.all fun c => isWB c || isDg c
def dbl : Bs → Bs
  | [] => []
  | c :: r => if c = 39 then 39 :: 39 :: dbl r else c :: dbl r
def segT (s : Sg) : Bs := if s.kind = 1 then numW s.n else if s.kind = 3 then 64 :: numW s.n else if s.kind = 4 then [42] else if s.kind = 5 then [42, 42] else if bare s.text = true then s.text else 39 :: (dbl s.text ++ [39])
def stepsT (l : List Sg) : Bs := (l.map fun s => 47 :: segT s).flatten
def ptx (l : List Sg) : Bs := if 60 < l.length ∨ sgsOk l = false then [] else if l = [] then [47] else stepsT l
theorem dbl_length : ∀ (a : Bs), (dbl a).length ≤ 2 * a.length
  | [] => by simp [dbl]
  | c :: a => by
    have := dbl_length a
    simp only [dbl]
    split <;> simp only [List.length_cons] <;> omega
open Go.Lib in
theorem index_step (b : UInt8) (l : Bs) : index (b :: l) [39] = if b = 39 then 0 else if index l [39] = -1 then -1 else index l [39] + 1 := by
  rw [index_one, index_one]
  conv => lhs; unfold indexByte
  by_cases h : b = 39
  · subst h; simp
  · have : (b == 39) = false := by simp [h]
    simp [this, h]
open Go.Lib in
theorem rpl_dbl : ∀ (s : Bs), replaceK [39] [39, 39] (count s [39]) s = dbl s
  | [] => by
    have h : index [] [39] = -1 := by rw [index_one]; rfl
    rw [count_miss h]
    rfl
  | b :: l => by
    have ih := rpl_dbl l
    have hs := index_step b l
    by_cases h : b = 39
    · subst h
      rw [if_pos rfl] at hs
      rw [count_hit (i := 0) (by decide) hs, Nat.add_comm, replaceK_hit _ _ _ _ 0 hs]
      simp only [List.take_zero, List.nil_append, List.length_cons, List.length_nil, Nat.zero_add, List.drop_succ_cons, List.drop_zero, dbl]
      rw [ih]; rfl
    · rw [if_neg h] at hs
      by_cases h2 : index l [39] = -1
      · rw [if_pos h2] at hs
        rw [count_miss h2] at ih
        rw [count_miss hs]
        simp only [replaceK] at ih ⊢
        simp only [dbl, if_neg h, ← ih]
      · have hg := index_ge l [39]
        obtain ⟨j, hj⟩ : ∃ j : Nat, index l [39] = j := ⟨(index l [39]).toNat, by omega⟩
        rw [if_neg h2, hj] at hs
        have hs' : index (b :: l) [39] = ((j + 1 : Nat) : Int) := by rw [hs]; rfl
        rw [count_hit (i := j) (by decide) hj, Nat.add_comm, replaceK_hit _ _ _ _ j hj] at ih
        rw [count_hit (i := j + 1) (by decide) hs', Nat.add_comm, replaceK_hit _ _ _ _ (j + 1) hs']
        simp only [List.take_succ_cons, List.length_cons, List.length_nil, Nat.zero_add, List.drop_succ_cons, dbl, if_neg h] at ih ⊢
        rw [← ih]
        simp
theorem rplA_dbl (s : Bs) : Go.Lib.replaceAll s [39] [39, 39] = dbl s := by
  unfold Go.Lib.replaceAll Go.Lib.replace Go.Lib.replaceNum
  rw [if_neg (by decide), if_pos (.inl (by decide))]
  exact rpl_dbl s
theorem stepsT_join : ∀ (l : List Sg), l ≠ [] → 47 :: Go.Lib.join (l.map segT) [47] = stepsT l
  | [], h => absurd rfl h
  | s :: l, _ => by
    rw [List.map_cons, Go.Lib.join_cons]
    simp [stepsT, Go.Lib.joinTail, List.map_map, Function.comp_def]
theorem ptx_join (l : List Sg) (h : ¬ (60 < l.length ∨ sgsOk l = false)) : 47 :: Go.Lib.join (l.map segT) [47] = ptx l := by
  unfold ptx
  rw [if_neg h]
  by_cases h2 : l = []
  · subst h2; rfl
  · rw [if_neg h2, stepsT_join l h2]
theorem dec_len (n : Nat) (h : n ≤ 4294967295) : (dec n).length ≤ 10 := by
  have h1 : ∀ m, m < 10 → (dec m).length = 1 := fun m hm => by rw [dec_eq, if_pos hm]; rfl
  have h2 : ∀ k m, (dec (m / 10)).length ≤ k → (dec m).length ≤ k + 1 := fun k m hk => by
    rw [dec_eq]; split
    · simp
    · simp only [List.length_append, List.length_singleton]; omega
  exact h2 9 n (h2 8 _ (h2 7 _ (h2 6 _ (h2 5 _ (h2 4 _ (h2 3 _ (h2 2 _ (h2 1 _ (Nat.le_of_eq (h1 _ (by omega)))))))))))
theorem numW_len (n : Int) : (numW n).length ≤ 10 := by
  unfold numW; split
  · exact dec_len _ (by omega)
  · simp
theorem segT_len (s : Sg) : (segT s).length ≤ 2 * s.text.length + 11 := by
  have h1 := numW_len s.n
  have h2 := dbl_length s.text
  unfold segT
  repeat' split
  all_goals (try simp only [List.length_cons, List.length_append, List.length_nil])
  all_goals omega
theorem stepsT_len (T : Nat) : ∀ (l : List Sg), (∀ i, i < l.length → (l.getD i sgz).text.length ≤ T) → (stepsT l).length ≤ l.length * (2 * T + 12)
  | [], _ => by simp [stepsT]
  | s :: l, h => by
    have h0 := h 0 (by simp)
    have ih := stepsT_len T l fun i hi => by simpa using h (i + 1) (by simp; omega)
    have h1 := segT_len s
    simp only [List.getD_cons_zero] at h0
    have e : stepsT (s :: l) = 47 :: segT s ++ stepsT l := by simp [stepsT]
    rw [e]
    rw [List.length_append, List.length_cons, List.length_cons, Nat.succ_mul]
    omega
theorem join_len {l : List Sg} {T : Nat} (h : ∀ i, i < l.length → (l.getD i sgz).text.length ≤ T) : (Go.Lib.join (l.map segT) [47]).length ≤ l.length * (2 * T + 12) := by
  have h1 := stepsT_len T l h
  by_cases h2 : l = []
  · subst h2; simp [Go.Lib.join, List.intercalate]
  · rw [← stepsT_join l h2] at h1
    simp only [List.length_cons] at h1
    omega
end Go.Pl
end
section
set_option linter.unusedVariables false
set_option linter.unusedSimpArgs false
namespace Go.Pl
set_option linter.unusedVariables false
set_option linter.unusedSimpArgs false
def isD (c : UInt8) : Prop := 48 ≤ c.toNat ∧ c.toNat ≤ 57
def valD : Bs → Int → Int
  | [], a => a
  | c :: r, a => valD r (a * 10 + ((c.toNat : Int) - 48))
theorem valD_append : ∀ (a b : Bs) (x : Int), valD (a ++ b) x = valD b (valD a x)
  | [], b, x => rfl
  | c :: a, b, x => by simp only [List.cons_append, valD]; exact valD_append a b _
theorem valD_ge : ∀ (r : Bs) (a : Int), (∀ c ∈ r, isD c) → 0 ≤ a → a ≤ valD r a
  | [], a, _, _ => Int.le_refl _
  | c :: r, a, h, ha => by
    have hc := h c (by simp)
    unfold isD at hc
    have := valD_ge r (a * 10 + ((c.toNat : Int) - 48)) (fun x hx => h x (by simp [hx])) (by omega)
    simp only [valD]
    omega
theorem toNat_dig (n : Nat) : (UInt8.ofNat (48 + n % 10)).toNat = 48 + n % 10 := by rw [UInt8.toNat_ofNat']; omega
theorem dec_D (n : Nat) : ∀ c ∈ dec n, isD c := by
  induction n using Nat.strongRecOn with
  | _ n ih =>
    rw [dec_eq]
    split
    · intro c hc
      simp only [List.mem_singleton] at hc
      subst hc
      rename_i h
      rw [show n = n % 10 by omega]
      unfold isD
      rw [toNat_dig]
      omega
    · intro c hc
      simp only [List.mem_append, List.mem_singleton] at hc
      rcases hc with hc | hc
      · exact ih (n / 10) (by omega) c hc
      · subst hc
        unfold isD
        rw [toNat_dig]
        omega
theorem valD_dec (n : Nat) : valD (dec n) 0 = n := by
  induction n using Nat.strongRecOn with
  | _ n ih =>
    rw [dec_eq]
    split
    · rename_i h
      rw [show n = n % 10 by omega]
      simp only [valD, toNat_dig]
      omega
    · rw [valD_append, ih (n / 10) (by omega)]
      simp only [valD, toNat_dig]
      omega
theorem dec_ne (n : Nat) : dec n ≠ [] := by
  rw [dec_eq]
  split <;> simp
end Go.Pl
namespace Go.Pl
end Go.Pl
end
section
set_option linter.unusedVariables false
set_option linter.unusedSimpArgs false
namespace Go.Pl
set_option linter.unusedVariables false
set_option linter.unusedSimpArgs false
def tnW (s : Bs) : Int × Bool := if 1 ≤ s.length ∧ s.length ≤ 10 ∧ (s.all isDg) = true ∧ numW (valD s 0) = s then (valD s 0, true) else (0, false)
theorem isDg_isD (c : UInt8) : isDg c = true ↔ isD c := by unfold isDg isD; simp
theorem valD_lt : ∀ (r : Bs) (a : Int), (∀ c ∈ r, isD c) → 0 ≤ a → valD r a < (a + 1) * 10 ^ r.length
  | [], a, _, ha => by simp [valD]; omega
  | c :: r, a, h, ha => by
    have hc := h c (by simp)
    unfold isD at hc
    have ih := valD_lt r (a * 10 + ((c.toNat : Int) - 48)) (fun x hx => h x (by simp [hx])) (by omega)
    simp only [valD, List.length_cons]
    have hp : (0 : Int) < 10 ^ r.length := Int.pow_pos (by decide)
    have h1 : (a * 10 + ((c.toNat : Int) - 48) + 1) * 10 ^ r.length ≤ ((a + 1) * 10) * 10 ^ r.length := Int.mul_le_mul_of_nonneg_right (by omega) (Int.le_of_lt hp)
    have h2 : (a + 1) * (10 : Int) ^ (r.length + 1) = ((a + 1) * 10) * 10 ^ r.length := by rw [Int.pow_succ, Int.mul_comm (10 ^ r.length), Int.mul_assoc]
    omega
theorem valD_bound {r : Bs} (h : ∀ c ∈ r, isD c) (hl : r.length ≤ 10) : 0 ≤ valD r 0 ∧ valD r 0 < 10000000000 := by
  have h1 := valD_lt r 0 h (Int.le_refl _)
  have h2 := valD_ge r 0 h (Int.le_refl _)
  have h3 : (10 : Int) ^ r.length ≤ 10 ^ 10 := by
    have := Nat.pow_le_pow_right (show 0 < 10 by decide) hl
    exact_mod_cast this
  have h4 : (10 : Int) ^ 10 = 10000000000 := by decide
  omega
theorem tnW_num {n : Int} (h : 0 ≤ n ∧ n ≤ 4294967295) : tnW (numW n) = (n, true) := by
  have e : numW n = dec n.toNat := by unfold numW; rw [if_pos h]
  have hl := dec_len n.toNat (by omega)
  have hne := List.length_pos_iff.2 (dec_ne n.toNat)
  have ha : ((dec n.toNat).all isDg) = true := by
    rw [List.all_eq_true]
    intro c hc
    exact (isDg_isD c).2 (dec_D _ c hc)
  have hv : valD (dec n.toNat) 0 = n := by rw [valD_dec]; omega
  unfold tnW
  rw [e, if_pos ⟨by omega, hl, ha, by rw [hv, e]⟩, hv]
def und (x : Bs) : Bs := Go.Lib.replaceAll x [39, 39] [39]
def tsI (s : Bs) : Sg := if s = [42] then ⟨4, 0, []⟩ else if s = [42, 42] then ⟨5, 0, []⟩ else if s ≠ [] ∧ s.getD 0 0 = 64 then ⟨3, (tnW (s.drop 1)).1, []⟩ else if 1 < s.length ∧ s.getD 0 0 = 39 then ⟨2, 0, und (sub s 1 (s.length - 1))⟩ else if (tnW s).2 = true then ⟨1, (tnW s).1, []⟩ else ⟨2, 0, s⟩
/-- Behind a text in quotes, from behind its first quote. -/
def qeI (s : Bs) (q : Nat) : Nat := if q < s.length then (if s.getD q 0 ≠ 39 then qeI s (q + 1) else if q + 1 = s.length ∨ s.getD (q + 1) 0 ≠ 39 then q + 1 else qeI s (q + 2)) else s.length
termination_by s.length - q
def slE (s : Bs) (q : Nat) : Nat := if q < s.length ∧ s.getD q 0 ≠ 47 then slE s (q + 1) else q
termination_by s.length - q
theorem slE_ge (s : Bs) (q : Nat) : q ≤ slE s q := by
  fun_induction slE s q with
  | case1 q h ih => omega
  | case2 q h => exact Nat.le_refl _
theorem slE_le (s : Bs) (q : Nat) (h : q ≤ s.length) : slE s q ≤ s.length := by
  fun_induction slE s q with
  | case1 q h2 ih => exact ih (by omega)
  | case2 q h2 => exact h
theorem qeI_le (s : Bs) (q : Nat) : qeI s q ≤ s.length := by
  fun_induction qeI s q <;> omega
theorem qeI_gt (s : Bs) (q : Nat) (h : q ≤ s.length) : q ≤ qeI s q := by
  fun_induction qeI s q <;> omega
/-- Where a step's text ends, as the implementation cuts it. -/
def stE (s : Bs) (p : Nat) : Nat := if p < s.length ∧ s.getD p 0 = 39 then qeI s (p + 1) else slE s p
theorem stE_ge (s : Bs) (p : Nat) (h : p ≤ s.length) : p ≤ stE s p ∧ stE s p ≤ s.length := by
  unfold stE
  split
  · rename_i h2
    have := qeI_gt s (p + 1) (by omega)
    have := qeI_le s (p + 1)
    omega
  · exact ⟨slE_ge s p, slE_le s p h⟩
def rdI (s : Bs) (p : Nat) (l : List Sg) : Option (List Sg) :=
  if h : p < s.length ∨ (1 < p ∧ p = s.length) then
    (if 60 < l.length + 1 ∨ (stE s p < s.length ∧ s.getD (stE s p) 0 ≠ 47) then none else rdI s (stE s p + 1) (l ++ [tsI (sub s p (stE s p))]))
  else some l
termination_by s.length + 1 - p
decreasing_by
  have := stE_ge s p (by omega)
  omega
def tpI (s : Bs) : List Sg × Bool := if s = [] ∨ s.getD 0 0 ≠ 47 then ([], false) else match rdI s 1 [] with
  | none => ([], false)
  | some l => if ptx l = s then (l, true) else ([], false)
def wdS (w : Bs) : Sg := if w = [42] then ⟨4, 0, []⟩ else if w = [42, 42] then ⟨5, 0, []⟩ else if (tnW w).2 = true then ⟨1, (tnW w).1, []⟩ else if 1 < w.length ∧ w.getD 0 0 = 64 then ⟨3, (tnW (w.drop 1)).1, []⟩ else ⟨2, 0, w⟩
open Go.Lib in
theorem replaceK_len {old new : Bs} (h : new.length ≤ old.length) : ∀ (k : Nat) (s : Bs), (replaceK old new k s).length ≤ s.length
  | 0, s => Nat.le_refl _
  | k + 1, s => by
    rw [replaceK]
    split
    · exact Nat.le_refl _
    · rename_i h2
      have hg := index_ge s old
      have hne : ¬ index s old = -1 := fun e => h2 (by rw [e]; rfl)
      have hr := index_room s old (by omega)
      have ih := replaceK_len h k (s.drop ((index s old).toNat + old.length))
      rw [List.length_drop] at ih
      simp only [List.length_append, List.length_take]
      omega
theorem und_len (x : Bs) : (und x).length ≤ x.length := by
  unfold und Go.Lib.replaceAll Go.Lib.replace
  rw [if_neg (by decide)]
  exact replaceK_len (by decide) _ _
theorem tsI_len (s : Bs) : (tsI s).text.length ≤ s.length := by
  have h := und_len (sub s 1 (s.length - 1))
  have h2 : (sub s 1 (s.length - 1)).length ≤ s.length := by simp only [sub, List.length_drop, List.length_take]; omega
  unfold tsI
  repeat' split
  all_goals (try simp only [List.length_nil])
  all_goals omega
end Go.Pl
end
section
set_option linter.unusedVariables false
set_option linter.unusedSimpArgs false
namespace Go.Pl
set_option linter.unusedVariables false
set_option linter.unusedSimpArgs false
open Go.Lib in
theorem index_step2 (b : UInt8) (l sub : Bs) : index (b :: l) sub = if sub.isPrefixOf (b :: l) = true then 0 else if index l sub = -1 then -1 else index l sub + 1 := by
  conv => lhs; unfold index
  by_cases h : sub.isPrefixOf (b :: l) = true
  · simp [h]
  · simp [h]
open Go.Lib in
theorem und_go : ∀ (t : Bs), replaceK [39, 39] [39] (count (dbl t) [39, 39]) (dbl t) = t
  | [] => by
    have h : index [] [39, 39] = -1 := by unfold index; rfl
    simp only [dbl]
    rw [count_miss h]
    rfl
  | c :: r => by
    have ih := und_go r
    by_cases h : c = 39
    · subst h
      simp only [dbl, if_pos]
      have hi : index (39 :: 39 :: dbl r) [39, 39] = ((0 : Nat) : Int) := by rw [index_step2, if_pos (by simp [List.isPrefixOf])]; rfl
      rw [count_hit (by decide) hi, Nat.add_comm, replaceK_hit _ _ _ _ 0 hi]
      simp only [List.take_zero, List.nil_append, List.length_cons, List.length_nil, Nat.zero_add, List.drop_succ_cons, List.drop_zero]
      rw [ih]; rfl
    · simp only [dbl, if_neg h]
      have hp : ([39, 39] : Bs).isPrefixOf (c :: dbl r) = false := by simp [List.isPrefixOf]; intro e; exact absurd e.symm h
      have hs := index_step2 c (dbl r) [39, 39]
      rw [hp, if_neg (by decide)] at hs
      by_cases h2 : index (dbl r) [39, 39] = -1
      · rw [if_pos h2] at hs
        rw [count_miss h2] at ih
        rw [count_miss hs]
        simp only [replaceK] at ih ⊢
        rw [ih]
      · have hg := index_ge (dbl r) [39, 39]
        obtain ⟨j, hj⟩ : ∃ j : Nat, index (dbl r) [39, 39] = j := ⟨(index (dbl r) [39, 39]).toNat, by omega⟩
        rw [if_neg h2, hj] at hs
        have hs' : index (c :: dbl r) [39, 39] = ((j + 1 : Nat) : Int) := by rw [hs]; rfl
        rw [count_hit (by decide) hj, Nat.add_comm, replaceK_hit _ _ _ _ j hj] at ih
        rw [count_hit (by decide) hs', Nat.add_comm, replaceK_hit _ _ _ _ (j + 1) hs']
        have e2 : j + 1 + ([39, 39] : Bs).length = (j + ([39, 39] : Bs).length) + 1 := by omega
        rw [e2, List.take_succ_cons, List.drop_succ_cons]
        conv => rhs; rw [← ih]
        simp
theorem und_dbl (t : Bs) : und (dbl t) = t := by
  unfold und Go.Lib.replaceAll Go.Lib.replace Go.Lib.replaceNum
  rw [if_neg (by decide), if_pos (.inl (by decide))]
  exact und_go t
theorem sgOk_parts {x : Sg} (h : sgOk x = true) : 1 ≤ x.kind ∧ x.kind ≤ 5 ∧ 0 ≤ x.n ∧ x.n ≤ 4294967295 ∧ (x.kind = 1 ∨ x.kind = 3 ∨ x.n = 0) ∧ (x.kind = 2 ∨ x.text = []) := by
  unfold sgOk at h
  simp only [Bool.and_eq_true, Bool.or_eq_true, decide_eq_true_eq] at h
  obtain ⟨⟨⟨a, b, c, d⟩, e⟩, f⟩ := h
  exact ⟨a, b, c, d, by rcases e with (e | e) | e; exact .inl e; exact .inr (.inl e); exact .inr (.inr e), f⟩
theorem numW_head {n : Int} (h : 0 ≤ n ∧ n ≤ 4294967295) : numW n ≠ [] ∧ isDg ((numW n).getD 0 0) = true ∧ ∀ c ∈ numW n, isD c := by
  have e : numW n = dec n.toNat := by unfold numW; rw [if_pos h]
  rw [e]
  have hne := dec_ne n.toNat
  refine ⟨hne, ?_, dec_D _⟩
  cases hd : dec n.toNat with
  | nil => exact absurd hd hne
  | cons a b =>
    have := dec_D n.toNat a (by rw [hd]; simp)
    exact (isDg_isD a).2 this
theorem isDg_not {c : UInt8} (h : isDg c = true) : c ≠ 42 ∧ c ≠ 64 ∧ c ≠ 39 ∧ c ≠ 47 := by
  unfold isDg at h
  have := of_decide_eq_true h
  refine ⟨?_, ?_, ?_, ?_⟩ <;> (rintro rfl; revert this; decide)
theorem isWB_not {c : UInt8} (h : isWB c = true) : c ≠ 42 ∧ c ≠ 64 ∧ c ≠ 39 ∧ c ≠ 47 ∧ isDg c = false := by
  unfold isWB at h
  have := of_decide_eq_true h
  refine ⟨?_, ?_, ?_, ?_, ?_⟩
  · rintro rfl; revert this; decide
  · rintro rfl; revert this; decide
  · rintro rfl; revert this; decide
  · rintro rfl; revert this; decide
  · unfold isDg; exact decide_eq_false (by omega)
theorem bare_parts {t : Bs} (h : bare t = true) : t ≠ [] ∧ isWB (t.getD 0 0) = true ∧ ∀ c ∈ t, c ≠ 47 := by
  unfold bare at h
  simp only [Bool.and_eq_true, decide_eq_true_eq, Bool.not_eq_true'] at h
  obtain ⟨⟨h1, h2⟩, h3⟩ := h
  rw [List.all_eq_true] at h3
  refine ⟨h1, ?_, fun c hc => ?_⟩
  · cases t with
    | nil => exact absurd rfl h1
    | cons a b =>
      have := h3 a (by simp)
      have h2' : isDg a = false := h2
      rw [h2', Bool.or_false] at this
      exact this
  · have := h3 c hc
    simp only [Bool.or_eq_true] at this
    rcases this with h | h
    · exact (isWB_not h).2.2.2.1
    · exact (isDg_not h).2.2.2
theorem ne_head {t u : Bs} (h : t.getD 0 0 ≠ u.getD 0 0) : t ≠ u := fun e => h (by rw [e])
theorem cons_ne {a b : UInt8} {x y : Bs} (h : a ≠ b) : a :: x ≠ b :: y := fun e => h (List.cons.inj e).1
theorem tsI_seg {x : Sg} (h : sgOk x = true) : tsI (segT x) = x := by
  obtain ⟨p1, p2, p3, p4, p5, p6⟩ := sgOk_parts h
  obtain ⟨k, n, t⟩ := x
  simp only at p1 p2 p3 p4 p5 p6
  unfold segT
  simp only
  by_cases k1 : k = 1
  · subst k1
    have ht : t = [] := by rcases p6 with h | h; exact absurd h (by decide); exact h
    subst ht
    rw [if_pos rfl]
    obtain ⟨d1, d2, _⟩ := numW_head ⟨p3, p4⟩
    have d3 := isDg_not d2
    have d4 := tnW_num ⟨p3, p4⟩
    unfold tsI
    rw [if_neg (ne_head d3.1), if_neg (ne_head d3.1), if_neg (fun e => d3.2.1 e.2), if_neg (fun e => d3.2.2.1 e.2), if_pos (by rw [d4]), d4]
  rw [if_neg k1]
  by_cases k3 : k = 3
  · subst k3
    have ht : t = [] := by rcases p6 with h | h; exact absurd h (by decide); exact h
    subst ht
    rw [if_pos rfl]
    unfold tsI
    rw [if_neg (cons_ne (by decide)), if_neg (cons_ne (by decide)), if_pos ⟨by simp, rfl⟩, List.drop_succ_cons, List.drop_zero, tnW_num ⟨p3, p4⟩]
  rw [if_neg k3]
  have hn : n = 0 := by rcases p5 with h | h | h; exact absurd h k1; exact absurd h k3; exact h
  subst hn
  by_cases k4 : k = 4
  · subst k4
    have ht : t = [] := by rcases p6 with h | h; exact absurd h (by decide); exact h
    subst ht
    rw [if_pos rfl]; rfl
  rw [if_neg k4]
  by_cases k5 : k = 5
  · subst k5
    have ht : t = [] := by rcases p6 with h | h; exact absurd h (by decide); exact h
    subst ht
    rw [if_pos rfl]; rfl
  rw [if_neg k5]
  have k2 : k = 2 := by omega
  subst k2
  by_cases hb : bare t = true
  · rw [if_pos hb]
    obtain ⟨b1, b2, _⟩ := bare_parts hb
    obtain ⟨c1, c2, c3, c4, c5⟩ := isWB_not b2
    have d4 : (tnW t).2 = false := by
      unfold tnW
      rw [if_neg]
      rintro ⟨_, _, h3, _⟩
      rw [List.all_eq_true] at h3
      cases t with
      | nil => exact b1 rfl
      | cons a b =>
        have := h3 a (by simp)
        have c5' : isDg a = false := c5
        rw [c5'] at this
        cases this
    unfold tsI
    rw [if_neg (ne_head c1), if_neg (ne_head c1), if_neg (fun e => c2 e.2), if_neg (fun e => c3 e.2), if_neg (by rw [d4]; decide)]
  · rw [if_neg hb]
    unfold tsI
    have e : sub (39 :: (dbl t ++ [39])) 1 ((39 :: (dbl t ++ [39])).length - 1) = dbl t := by
      unfold sub
      have : (39 :: (dbl t ++ [39])).length - 1 = (dbl t).length + 1 := by simp
      rw [this, List.take_succ_cons, List.drop_succ_cons, List.drop_zero, List.take_left]
    rw [if_neg (cons_ne (by decide)), if_neg (cons_ne (by decide)), if_neg (by rintro ⟨_, e9⟩; have e8 : (39 : UInt8) = 64 := e9; revert e8; decide), if_pos ⟨by simp, rfl⟩, e, und_dbl]
end Go.Pl
end
section
set_option linter.unusedVariables false
set_option linter.unusedSimpArgs false
namespace Go.Pl
set_option linter.unusedVariables false
set_option linter.unusedSimpArgs false
theorem drop_cons {s : Bs} {p : Nat} {c : UInt8} {r : Bs} (h : s.drop p = c :: r) : p < s.length ∧ s.getD p 0 = c ∧ s.drop (p + 1) = r := by
  have hl : p < s.length := by
    refine Classical.byContradiction fun hn => ?_
    rw [List.drop_eq_nil_of_le (by omega)] at h
    cases h
  rw [List.drop_eq_getElem_cons hl] at h
  injection h with h1 h2
  exact ⟨hl, by rw [List.getD_eq_getElem?_getD, List.getElem?_eq_getElem hl]; exact h1, h2⟩
theorem drop_nil {s : Bs} {p : Nat} (h : s.drop p = []) : s.length ≤ p := by
  have := congrArg List.length h
  rw [List.length_drop] at this
  simp at this
  omega
def Bnd (B : Bs) : Prop := B = [] ∨ ∃ r, B = 47 :: r
theorem slE_run {s B : Bs} (hB : Bnd B) : ∀ (w : Bs) (p : Nat), s.drop p = w ++ B → (∀ c ∈ w, c ≠ 47) → slE s p = p + w.length
  | [], p, h, _ => by
    rw [slE.eq_def]
    rcases hB with rfl | ⟨r, rfl⟩
    · have := drop_nil (by simpa using h)
      rw [if_neg (by omega)]; rfl
    · have := drop_cons (s := s) (p := p) (by simpa using h)
      rw [if_neg (fun e => e.2 this.2.1)]; rfl
  | c :: w, p, h, hw => by
    have h1 := drop_cons (s := s) (p := p) (c := c) (r := w ++ B) (by simpa using h)
    rw [slE.eq_def, if_pos ⟨h1.1, by rw [h1.2.1]; exact hw c (by simp)⟩, slE_run hB w (p + 1) h1.2.2 (fun x hx => hw x (by simp [hx])), List.length_cons]
    omega
theorem qeI_run {s B : Bs} (hB : Bnd B) : ∀ (t : Bs) (q : Nat), s.drop q = dbl t ++ 39 :: B → qeI s q = q + (dbl t).length + 1
  | [], q, h => by
    have h1 := drop_cons (s := s) (p := q) (c := 39) (r := B) (by simpa [dbl] using h)
    rw [qeI.eq_def, if_pos h1.1, if_neg (by rw [h1.2.1]; decide), if_pos]
    · simp [dbl]
    · rcases hB with rfl | ⟨r, rfl⟩
      · have := drop_nil h1.2.2
        exact .inl (by omega)
      · have h2 := drop_cons h1.2.2
        exact .inr (by rw [h2.2.1]; decide)
  | c :: t, q, h => by
    by_cases hc : c = 39
    · subst hc
      have h1 := drop_cons (s := s) (p := q) (c := 39) (r := 39 :: (dbl t ++ 39 :: B)) (by simpa [dbl] using h)
      have h2 := drop_cons h1.2.2
      rw [qeI.eq_def, if_pos h1.1, if_neg (by rw [h1.2.1]; decide), if_neg (by rintro (e | e); omega; exact e h2.2.1), qeI_run hB t (q + 2) h2.2.2]
      simp only [dbl, if_pos, List.length_cons]
      omega
    · have h1 := drop_cons (s := s) (p := q) (c := c) (r := dbl t ++ 39 :: B) (by simpa [dbl, hc] using h)
      rw [qeI.eq_def, if_pos h1.1, if_pos (by rw [h1.2.1]; exact hc), qeI_run hB t (q + 1) h1.2.2]
      simp only [dbl, if_neg hc, List.length_cons]
      omega
end Go.Pl
end
section
set_option linter.unusedVariables false
set_option linter.unusedSimpArgs false
namespace Go.Pl
set_option linter.unusedVariables false
set_option linter.unusedSimpArgs false
theorem tn_not {t : Bs} (h : isDg (t.getD 0 0) = false) : (tnW t).2 = false := by
  unfold tnW
  rw [if_neg]
  rintro ⟨h1, _, h3, _⟩
  rw [List.all_eq_true] at h3
  cases t with
  | nil => simp at h1
  | cons a b =>
    have := h3 a (by simp)
    have h' : isDg a = false := h
    rw [h'] at this
    cases this
theorem seg_plain {x : Sg} (h : sgOk x = true) : (∃ t, segT x = 39 :: (dbl t ++ [39]) ∧ x = ⟨2, 0, t⟩) ∨ (segT x ≠ [] ∧ (segT x).getD 0 0 ≠ 39 ∧ (∀ c ∈ segT x, c ≠ 47) ∧ wdS (segT x) = x) := by
  obtain ⟨p1, p2, p3, p4, p5, p6⟩ := sgOk_parts h
  obtain ⟨k, n, t⟩ := x
  simp only at p1 p2 p3 p4 p5 p6
  unfold segT
  simp only
  by_cases k1 : k = 1
  · subst k1
    have ht : t = [] := by rcases p6 with h | h; exact absurd h (by decide); exact h
    subst ht
    rw [if_pos rfl]
    obtain ⟨d1, d2, d5⟩ := numW_head ⟨p3, p4⟩
    have d3 := isDg_not d2
    have d4 := tnW_num ⟨p3, p4⟩
    refine .inr ⟨d1, d3.2.2.1, fun c hc => (isDg_not ((isDg_isD c).2 (d5 c hc))).2.2.2, ?_⟩
    unfold wdS
    rw [if_neg (ne_head d3.1), if_neg (ne_head d3.1), if_pos (by rw [d4]), d4]
  rw [if_neg k1]
  by_cases k3 : k = 3
  · subst k3
    have ht : t = [] := by rcases p6 with h | h; exact absurd h (by decide); exact h
    subst ht
    rw [if_pos rfl]
    obtain ⟨d1, d2, d5⟩ := numW_head ⟨p3, p4⟩
    have hl := List.length_pos_iff.2 d1
    refine .inr ⟨by simp, by show (64 : UInt8) ≠ 39; decide, fun c hc => ?_, ?_⟩
    · rcases List.mem_cons.1 hc with rfl | hc
      · decide
      · exact (isDg_not ((isDg_isD c).2 (d5 c hc))).2.2.2
    · unfold wdS
      rw [if_neg (cons_ne (by decide)), if_neg (cons_ne (by decide)), if_neg (by rw [tn_not (by rfl)]; decide), if_pos ⟨by simp only [List.length_cons]; omega, rfl⟩, List.drop_succ_cons, List.drop_zero, tnW_num ⟨p3, p4⟩]
  rw [if_neg k3]
  have hn : n = 0 := by rcases p5 with h | h | h; exact absurd h k1; exact absurd h k3; exact h
  subst hn
  by_cases k4 : k = 4
  · subst k4
    have ht : t = [] := by rcases p6 with h | h; exact absurd h (by decide); exact h
    subst ht
    rw [if_pos rfl]
    exact .inr ⟨by simp, by decide, by decide, rfl⟩
  rw [if_neg k4]
  by_cases k5 : k = 5
  · subst k5
    have ht : t = [] := by rcases p6 with h | h; exact absurd h (by decide); exact h
    subst ht
    rw [if_pos rfl]
    exact .inr ⟨by simp, by decide, by decide, rfl⟩
  rw [if_neg k5]
  have k2 : k = 2 := by omega
  subst k2
  by_cases hb : bare t = true
  · rw [if_pos hb]
    obtain ⟨b1, b2, b3⟩ := bare_parts hb
    obtain ⟨c1, c2, c3, c4, c5⟩ := isWB_not b2
    refine .inr ⟨b1, c3, b3, ?_⟩
    unfold wdS
    rw [if_neg (ne_head c1), if_neg (ne_head c1), if_neg (by rw [tn_not c5]; decide), if_neg (fun e => c2 e.2)]
  · rw [if_neg hb]
    exact .inl ⟨t, rfl, rfl⟩
theorem sub_run {s w B : Bs} {p : Nat} (h : s.drop p = w ++ B) : sub s p (p + w.length) = w := by
  unfold sub
  rw [List.drop_take, Nat.add_sub_cancel_left, h, List.take_left]
theorem stE_run {s B : Bs} {x : Sg} {p : Nat} (hB : Bnd B) (hx : sgOk x = true) (h : s.drop p = segT x ++ B) : stE s p = p + (segT x).length := by
  rcases seg_plain hx with ⟨t, e, _⟩ | ⟨h1, h2, h3, _⟩
  · rw [e] at h ⊢
    have h1 := drop_cons (s := s) (p := p) (c := 39) (r := dbl t ++ 39 :: B) (by simpa using h)
    unfold stE
    rw [if_pos ⟨h1.1, h1.2.1⟩, qeI_run hB t (p + 1) h1.2.2]
    simp only [List.length_cons, List.length_append, List.length_nil]
    omega
  · unfold stE
    rw [if_neg, slE_run hB _ p h h3]
    rintro ⟨_, e2⟩
    cases hw : segT x with
    | nil => exact h1 hw
    | cons a b =>
      rw [hw] at h h2
      have := drop_cons (s := s) (p := p) (c := a) (r := b ++ B) (by simpa using h)
      rw [this.2.1] at e2
      exact h2 e2
theorem bnd_steps (r : List Sg) : Bnd (stepsT r) := by
  cases r with
  | nil => exact .inl rfl
  | cons a b => exact .inr ⟨_, rfl⟩
theorem steps_cons (x : Sg) (r : List Sg) : stepsT (x :: r) = 47 :: (segT x ++ stepsT r) := by simp [stepsT]
theorem drop_add {s w B : Bs} {p : Nat} (h : s.drop p = w ++ B) : s.drop (p + w.length) = B := by
  rw [← List.drop_drop, h, List.drop_left]
theorem segT_ne {x : Sg} (h : sgOk x = true) : segT x ≠ [] := by
  rcases seg_plain h with ⟨t, e, _⟩ | ⟨h1, _⟩
  · rw [e]; simp
  · exact h1
theorem rdI_run {s : Bs} : ∀ (r : List Sg) (x : Sg) (l : List Sg) (p : Nat), s.drop p = segT x ++ stepsT r → sgOk x = true → (∀ y ∈ r, sgOk y = true) → 1 ≤ p → l.length + 1 + r.length ≤ 60 → rdI s p l = some (l ++ x :: r) := by
  intro r
  induction r with
  | nil =>
    intro x l p h hx _ hp hl
    have h1 := stE_run (bnd_steps []) hx h
    have hpl : p < s.length := by
      refine Classical.byContradiction fun hn => ?_
      rw [List.drop_eq_nil_of_le (by omega)] at h
      exact segT_ne hx (List.append_eq_nil_iff.1 h.symm).1
    have h2 := drop_nil (drop_add h)
    have h3 := stE_ge s p (by omega)
    simp only [List.length_nil] at hl
    rw [rdI.eq_def, dif_pos (.inl hpl), if_neg (by omega), h1, sub_run h, tsI_seg hx, rdI.eq_def, dif_neg (by omega)]
  | cons y r ih =>
    intro x l p h hx hr hp hl
    have h1 := stE_run (bnd_steps (y :: r)) hx h
    have hpl : p < s.length := by
      refine Classical.byContradiction fun hn => ?_
      rw [List.drop_eq_nil_of_le (by omega)] at h
      exact segT_ne hx (List.append_eq_nil_iff.1 h.symm).1
    have h2 := drop_add h
    rw [steps_cons] at h2
    have h3 := drop_cons h2
    simp only [List.length_cons] at hl
    have h4 : ¬ (60 < l.length + 1 ∨ (stE s p < s.length ∧ s.getD (stE s p) 0 ≠ 47)) := by
      rw [h1]
      rintro (e | ⟨_, e⟩)
      · omega
      · exact e h3.2.1
    rw [rdI.eq_def, dif_pos (.inl hpl), if_neg h4, h1, sub_run h, tsI_seg hx]
    rw [ih y (l ++ [x]) _ h3.2.2 (hr y (by simp)) (fun z hz => hr z (by simp [hz])) (by omega) (by simp; omega)]
    simp
theorem tpI_ptx {l : List Sg} (hlen : l.length ≤ 60) (hok2 : ∀ x ∈ l, sgOk x = true) : tpI (ptx l) = (l, true) ∧ ptx l ≠ [] := by
  have hk : sgsOk l = true := by unfold sgsOk; exact List.all_eq_true.2 hok2
  have hn : ¬ (60 < l.length ∨ sgsOk l = false) := by rw [hk]; simp; omega
  cases l with
  | nil =>
    have e2 : rdI [47] 1 [] = some [] := by rw [rdI.eq_def, dif_neg (by simp)]
    have e0 : ptx [] = [47] := by unfold ptx; rw [if_neg hn, if_pos rfl]
    rw [e0]
    refine ⟨?_, by simp⟩
    unfold tpI
    rw [if_neg (by simp), e2]
    simp only
    rw [if_pos e0]
  | cons x r =>
    have e0 : ptx (x :: r) = 47 :: (segT x ++ stepsT r) := by unfold ptx; rw [if_neg hn, if_neg (by simp), steps_cons]
    have eI : rdI (ptx (x :: r)) 1 [] = some (x :: r) := by
      have := rdI_run (s := ptx (x :: r)) r x [] 1 (by rw [e0]; rfl) (hok2 x (by simp)) (fun y hy => hok2 y (by simp [hy])) (Nat.le_refl _) (by simp only [List.length_cons] at hlen; simp only [List.length_nil]; omega)
      simpa using this
    refine ⟨?_, by rw [e0]; simp⟩
    unfold tpI
    rw [if_neg (by rw [e0]; rintro (e | e); cases e; exact e rfl), eI]
    simp
end Go.Pl
end
