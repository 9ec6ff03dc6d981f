/- What digits are worth. -/
import Derived.Test.YtlbahpbnnmgpnaaBaseE
import Derived.Test.YtlbahpbnnmgpnaaPlV
namespace Go.Pl
set_option linter.unusedVariables false
set_option linter.unusedSimpArgs false
def isD (c : UInt8) : Prop := 48 ≤ c.toNat ∧ c.toNat ≤ 57
def valD : Bs → Int → Int
  | [], a => a
  | c :: r, a => valD r (a * 10 + ((c.toNat : Int) - 48))
theorem valD_append : ∀ (a b : Bs) (x : Int), valD (a ++ b) x = valD b (valD a x)
  | [], b, x => rfl
  | c :: a, b, x => by simp only [List.cons_append, valD]; exact valD_append a b _
theorem valD_ge : ∀ (r : Bs) (a : Int), (∀ c ∈ r, isD c) → 0 ≤ a → a ≤ valD r a
  | [], a, _, _ => Int.le_refl _
  | c :: r, a, h, ha => by
    have hc := h c (by simp)
    unfold isD at hc
    have := valD_ge r (a * 10 + ((c.toNat : Int) - 48)) (fun x hx => h x (by simp [hx])) (by omega)
    simp only [valD]
    omega
theorem toNat_dig (n : Nat) : (UInt8.ofNat (48 + n % 10)).toNat = 48 + n % 10 := by rw [UInt8.toNat_ofNat']; omega
theorem dec_D (n : Nat) : ∀ c ∈ dec n, isD c := by
  induction n using Nat.strongRecOn with
  | _ n ih =>
    rw [dec_eq]
    split
    · intro c hc
      simp only [List.mem_singleton] at hc
      subst hc
      rename_i h
      rw [show n = n % 10 by omega]
      unfold isD
      rw [toNat_dig]
      omega
    · intro c hc
      simp only [List.mem_append, List.mem_singleton] at hc
      rcases hc with hc | hc
      · exact ih (n / 10) (by omega) c hc
      · subst hc
        unfold isD
        rw [toNat_dig]
        omega
theorem valD_dec (n : Nat) : valD (dec n) 0 = n := by
  induction n using Nat.strongRecOn with
  | _ n ih =>
    rw [dec_eq]
    split
    · rename_i h
      rw [show n = n % 10 by omega]
      simp only [valD, toNat_dig]
      omega
    · rw [valD_append, ih (n / 10) (by omega)]
      simp only [valD, toNat_dig]
      omega
theorem dec_ne (n : Nat) : dec n ≠ [] := by
  rw [dec_eq]
  split <;> simp
end Go.Pl
namespace Go.Pl
theorem dec_short {n : Nat} (h : n < 1000000000000) : (dec n).length ≤ 20 := by
  have step : ∀ (k n : Nat), n < 10 ^ (k + 1) → (dec n).length ≤ k + 1 := by
    intro k
    induction k with
    | zero => intro n hn; rw [dec_eq, if_pos (by simpa using hn)]; simp
    | succ k ih =>
      intro n hn
      rw [dec_eq]
      split
      · simp
      · have := ih (n / 10) (by rw [Nat.pow_succ] at hn; omega)
        simp
        omega
  have := step 19 n (Nat.lt_of_lt_of_le h (by decide))
  omega
end Go.Pl
