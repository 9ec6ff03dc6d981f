/- Plain words for what the program's text functions compute. -/
set_option linter.unusedVariables false
set_option linter.unusedSimpArgs false
namespace Go.Pl
abbrev Bs := List UInt8
/-- A place brought into a text. -/
def spot (s : Bs) (p : Int) : Nat := min p.toNat s.length
theorem spot_le (s : Bs) (p : Int) : spot s p ≤ s.length := Nat.min_le_right _ _
theorem spot_nat (s : Bs) (p : Int) (h0 : 0 ≤ p) (h : p ≤ s.length) : (spot s p : Int) = p := by unfold spot; omega
theorem spot_of (s : Bs) {i : Nat} (h : i ≤ s.length) : spot s i = i := by unfold spot; omega
/-- The byte at a place, as a number; -1 behind the end. -/
def byt (s : Bs) (i : Nat) : Int := match s[i]? with
  | some b => b.toNat
  | none => -1
theorem byt_lt {s : Bs} {i : Nat} (h : i < s.length) : byt s i = (s.getD i 0).toNat := by
  simp [byt, List.getElem?_eq_getElem h, List.getD]
theorem byt_ge {s : Bs} {i : Nat} (h : s.length ≤ i) : byt s i = -1 := by
  simp [byt, List.getElem?_eq_none h]
theorem byt_range (s : Bs) (i : Nat) : -1 ≤ byt s i ∧ byt s i ≤ 255 := by
  unfold byt
  split
  · rename_i b _
    have := b.toNat_lt
    omega
  · omega
theorem byt_neg {s : Bs} {i : Nat} : byt s i < 0 ↔ s.length ≤ i := by
  rcases Nat.lt_or_ge i s.length with h | h
  · rw [byt_lt h]
    constructor <;> intro h' <;> omega
  · rw [byt_ge h]
    constructor <;> intro h' <;> omega
def isW (s : Bs) (i : Nat) : Bool := byt s i == 32 || byt s i == 9
def isB (s : Bs) (i : Nat) : Bool := byt s i == 10 || decide (byt s i < 0)
theorem byt_spot {s : Bs} {p : Int} (h : 0 ≤ p) : byt s (spot s p) = byt s p.toNat := by
  rcases Nat.lt_or_ge p.toNat s.length with h' | h'
  · rw [show spot s p = p.toNat from by unfold spot; omega]
  · rw [byt_ge h', byt_ge (by unfold spot; omega)]
def gap (s : Bs) (i : Nat) : Bool := isW s i || isB s i
theorem isW_lt {s : Bs} {i : Nat} (h : isW s i = true) : i < s.length := by
  rcases Nat.lt_or_ge i s.length with h' | h'
  · exact h'
  · simp [isW, byt_ge h'] at h
theorem isB_not {s : Bs} {i : Nat} (h : isB s i = false) : i < s.length := by
  rcases Nat.lt_or_ge i s.length with h' | h'
  · exact h'
  · simp [isB, byt_ge h'] at h
theorem gap_not {s : Bs} {i : Nat} (h : gap s i = false) : i < s.length := isB_not (by simp [gap] at h; exact h.2)
theorem gap_end {s : Bs} {i : Nat} (h : s.length ≤ i) : gap s i = true := by simp [gap, isB, byt_ge h]
/-- Over white. -/
def wh (s : Bs) (i : Nat) : Nat := if h : isW s i = true then wh s (i + 1) else i
termination_by s.length - i
decreasing_by have := isW_lt h; omega
theorem wh_t {s : Bs} {i : Nat} (h : isW s i = true) : wh s i = wh s (i + 1) := by rw [wh, dif_pos h]
theorem wh_f {s : Bs} {i : Nat} (h : isW s i = false) : wh s i = i := by rw [wh, dif_neg (by simp [h])]
theorem wh_ge (s : Bs) (i : Nat) : i ≤ wh s i := by
  fun_induction wh s i with
  | case1 i h ih => omega
  | case2 i h => omega
theorem wh_le (s : Bs) (i : Nat) (h : i ≤ s.length) : wh s i ≤ s.length := by
  fun_induction wh s i with
  | case1 i h' ih => exact ih (isW_lt h')
  | case2 i h' => exact h
theorem wh_not (s : Bs) (i : Nat) : isW s (wh s i) = false := by
  fun_induction wh s i with
  | case1 i h ih => exact ih
  | case2 i h => simpa using h
theorem wh_wh (s : Bs) (i : Nat) : wh s (wh s i) = wh s i := wh_f (wh_not s i)
/-- On to a break. -/
def en (s : Bs) (i : Nat) : Nat := if h : isB s i = false then en s (i + 1) else i
termination_by s.length - i
decreasing_by have := isB_not h; omega
theorem en_t {s : Bs} {i : Nat} (h : isB s i = false) : en s i = en s (i + 1) := by rw [en, dif_pos h]
theorem en_f {s : Bs} {i : Nat} (h : isB s i = true) : en s i = i := by rw [en, dif_neg (by simp [h])]
theorem en_ge (s : Bs) (i : Nat) : i ≤ en s i := by
  fun_induction en s i with
  | case1 i h ih => omega
  | case2 i h => omega
theorem en_le (s : Bs) (i : Nat) (h : i ≤ s.length) : en s i ≤ s.length := by
  fun_induction en s i with
  | case1 i h' ih => exact ih (isB_not h')
  | case2 i h' => exact h
theorem en_isB (s : Bs) (i : Nat) : isB s (en s i) = true := by
  fun_induction en s i with
  | case1 i h ih => exact ih
  | case2 i h => simpa using h
theorem en_lt {s : Bs} {i q : Nat} (h1 : i ≤ q) (h2 : q < en s i) : isB s q = false := by
  fun_induction en s i with
  | case1 i hb ih =>
    rcases Nat.lt_or_ge i q with h | h
    · exact ih h h2
    · have : i = q := by omega
      subst this; exact hb
  | case2 i hb => omega
/-- On to a gap. -/
def gp (s : Bs) (i : Nat) : Nat := if h : gap s i = false then gp s (i + 1) else i
termination_by s.length - i
decreasing_by have := gap_not h; omega
theorem gp_t {s : Bs} {i : Nat} (h : gap s i = false) : gp s i = gp s (i + 1) := by rw [gp, dif_pos h]
theorem gp_f {s : Bs} {i : Nat} (h : gap s i = true) : gp s i = i := by rw [gp, dif_neg (by simp [h])]
theorem gp_ge (s : Bs) (i : Nat) : i ≤ gp s i := by
  fun_induction gp s i with
  | case1 i h ih => omega
  | case2 i h => omega
theorem gp_le (s : Bs) (i : Nat) (h : i ≤ s.length) : gp s i ≤ s.length := by
  fun_induction gp s i with
  | case1 i h' ih => exact ih (gap_not h')
  | case2 i h' => exact h
theorem gp_gap (s : Bs) (i : Nat) : gap s (gp s i) = true := by
  fun_induction gp s i with
  | case1 i h ih => exact ih
  | case2 i h => simpa using h
/-- A part of a text. -/
def sub (s : Bs) (a b : Nat) : Bs := (s.take b).drop a
theorem sub_eq (s : Bs) (a b : Int) : (s.take b.toNat).drop a.toNat = sub s a.toNat b.toNat := rfl
/-- The words of a directive. -/
def dirs (s : Bs) (e : Nat) (p : Nat) : List Bs :=
  let q := wh s p
  if h : q < e ∧ byt s q ≠ 35 ∧ gap s q = false then sub s q (gp s q) :: dirs s e (gp s q) else []
termination_by e - p
decreasing_by
  have h1 := wh_ge s p
  have h2 := gp_t (s := s) (i := wh s p) h.2.2
  have h3 := gp_ge s (wh s p + 1)
  omega
theorem dirs_len' (s : Bs) (e : Nat) : ∀ (n p : Nat), e - p ≤ n → (dirs s e p).length ≤ e - p
  | n, p, hn => by
    rw [dirs]
    split
    · rename_i h
      have h1 := wh_ge s p
      have h2 := gp_t (s := s) (i := wh s p) h.2.2
      have h3 := gp_ge s (wh s p + 1)
      cases n with
      | zero => omega
      | succ n =>
        have := dirs_len' s e n (gp s (wh s p)) (by omega)
        simp only [List.length_cons]
        omega
    · simp
theorem dirs_len (s : Bs) (e p : Nat) : (dirs s e p).length ≤ e - p := dirs_len' s e _ p (Nat.le_refl _)
/-- The first place of a byte, or -1. -/
def idx (s : Bs) (c : UInt8) : Int := match s.findIdx? (· == c) with
  | some i => i
  | none => -1
theorem idx_en (s : Bs) (i : Nat) (h : i ≤ s.length) : (if idx (s.drop i) 10 < 0 then (s.length : Int) else i + idx (s.drop i) 10) = en s i := by
  fun_induction en s i with
  | case1 i hb ih =>
    have hl := isB_not hb
    have ih := ih (by omega)
    rw [← ih]
    have hd : s.drop i = s[i] :: s.drop (i + 1) := List.drop_eq_getElem_cons hl
    have hne : (s[i] == (10 : UInt8)) = false := by
      simp [isB, byt, List.getElem?_eq_getElem hl] at hb
      simp
      intro e
      have := congrArg UInt8.toNat e
      simp at this
      omega
    unfold idx
    rw [hd, List.findIdx?_cons, hne]
    cases hf : List.findIdx? (fun x => x == 10) (s.drop (i + 1)) with
    | none => simp [hf]
    | some j => simp [hf]; omega
  | case2 i hb =>
    simp at hb
    rcases Nat.lt_or_ge i s.length with hl | hl
    · have hd : s.drop i = s[i] :: s.drop (i + 1) := List.drop_eq_getElem_cons hl
      have hne : (s[i] == (10 : UInt8)) = true := by
        simp [isB, byt, List.getElem?_eq_getElem hl] at hb
        simp
        apply UInt8.toNat_inj.1
        simp
        omega
      unfold idx
      rw [hd, List.findIdx?_cons, hne]
      simp
    · unfold idx
      rw [List.drop_of_length_le hl]
      simp
      omega
end Go.Pl
