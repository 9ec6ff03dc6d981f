/- Plain words: decimal digits, and the marks that a law writes into what it was handed. -/
namespace Go.Pl
def dec (n : Nat) : List UInt8 := if h : n < 10 then [UInt8.ofNat (48 + n)] else dec (n / 10) ++ [UInt8.ofNat (48 + n % 10)]
termination_by n
decreasing_by omega
theorem dec_eq (n : Nat) : dec n = if n < 10 then [UInt8.ofNat (48 + n)] else dec (n / 10) ++ [UInt8.ofNat (48 + n % 10)] := by
  rw [dec]; split <;> rfl
theorem dec_length (n : Nat) : (dec n).length ≤ n + 1 := by
  induction n using Nat.strongRecOn with
  | _ n ih =>
    rw [dec_eq]
    split
    · simp
    · have := ih (n / 10) (by omega)
      simp
      omega
def mtx (k : Int) : List UInt8 := if k ≤ 0 then [109, 48] else 109 :: dec k.toNat
/-- What is behind the first digits: 'm' is still to be written ahead of 'out'. -/
def DecInv (n m : Nat) (out : List UInt8) : Prop := m ≤ n ∧ if m = 0 then out = dec n else dec m ++ out = dec n
theorem DecInv.step {n m : Nat} {out : List UInt8} (h : DecInv n m out) (hm : 0 < m) : DecInv n (m / 10) (UInt8.ofNat (48 + m % 10) :: out) := by
  unfold DecInv at *
  rw [if_neg (by omega)] at h
  refine ⟨by omega, ?_⟩
  rw [dec_eq m] at h
  split
  · rename_i h0
    rw [if_pos (by omega)] at h
    rw [show m % 10 = m by omega]
    simpa using h.2
  · rw [if_neg (by omega)] at h
    simpa using h.2
theorem DecInv.len {n m : Nat} {out : List UInt8} (h : DecInv n m out) : out.length ≤ n + 1 := by
  have := dec_length n
  unfold DecInv at h
  split at h
  · rw [h.2]; exact this
  · have h2 := congrArg List.length h.2
    simp at h2
    omega
/-- A row of marks. -/
def mkL {α : Type} (g : Int → α) (c : Int) : Int → Nat → List α
  | _, 0 => []
  | k, n + 1 => g k :: mkL g c (k + c) n
theorem mkL_length {α : Type} {g : Int → α} {c : Int} : ∀ {n : Nat} {k : Int}, (mkL g c k n).length = n
  | 0, _ => rfl
  | n + 1, k => by simp [mkL, mkL_length]
theorem mkL_get {α : Type} {g : Int → α} {c : Int} (z : α) : ∀ {n : Nat} {k : Int} {j : Nat}, j < n → (mkL g c k n).getD j z = g (k + c * j)
  | 0, _, j, h => by omega
  | n + 1, k, 0, _ => by simp [mkL]
  | n + 1, k, j + 1, h => by
    have := mkL_get (g := g) (c := c) z (n := n) (k := k + c) (j := j) (by omega)
    simp only [mkL, List.getD_cons_succ, this]
    congr 1
    rw [Int.natCast_add, Int.mul_add]
    omega
theorem eq_of_getD {α : Type} (z : α) {a b : List α} (hl : a.length = b.length) (h : ∀ j, j < a.length → a.getD j z = b.getD j z) : a = b := by
  apply List.ext_getElem hl
  intro j h1 h2
  have := h j h1
  simpa [List.getD, List.getElem?_eq_getElem h1, List.getElem?_eq_getElem h2] using this
/-- A row of which a beginning is marked. -/
def mkd {α : Type} (g : Int → α) (c k : Int) (a : List α) (i : Nat) : List α := mkL g c k i ++ a.drop i
theorem mkd_get {α : Type} {g : Int → α} {c k : Int} {a : List α} {i : Nat} (z : α) (j : Nat) : (mkd g c k a i).getD j z = if j < i then g (k + c * j) else a.getD j z := by
  unfold mkd
  split
  · rename_i h
    have := mkL_get (g := g) (c := c) z (n := i) (k := k) h
    rw [← this]
    simp only [List.getD_eq_getElem?_getD]
    rw [List.getElem?_append_left (by rw [mkL_length]; exact h)]
  · rename_i h
    simp only [List.getD_eq_getElem?_getD]
    rw [List.getElem?_append_right (by rw [mkL_length]; omega), mkL_length, List.getElem?_drop, show i + (j - i) = j by omega]
theorem mkd_zero {α : Type} {g : Int → α} {c k : Int} {a : List α} : mkd g c k a 0 = a := by simp [mkd, mkL]
theorem mkd_all {α : Type} {g : Int → α} {c k : Int} {a : List α} : mkd g c k a a.length = mkL g c k a.length := by simp [mkd]
end Go.Pl
