/- Scalars in quotes, and keys, in plain words. -/
import Derived.Test.YtjphhddbkjdbnaaPlB
namespace Go.Pl
set_option linter.unusedVariables false
set_option linter.unusedSimpArgs false
def sgl (s : Bs) (i : Nat) (L : List Pc) (cur : Bs) : Bs × Nat × Int :=
  if h : i < s.length then
    if byt s i = 10 then (if mkA s (i + 1) = 0 then sgl s (wh s (i + 1)) (L ++ [⟨cutW 0 cur, false⟩]) [] else ([], i + 1, 4))
    else if byt s i = 39 ∧ byt s (i + 1) = 39 then sgl s (i + 2) L (cur ++ [39])
    else if byt s i = 39 then (foldT (L ++ [⟨cur, false⟩]), i + 1, 0)
    else sgl s (i + 1) L (cur ++ [s.getD i 0])
  else ([], s.length, 3)
termination_by s.length - i
decreasing_by
  · have := wh_ge s (i + 1); omega
  · omega
  · omega
theorem sgl_end {s : Bs} {i : Nat} {L : List Pc} {cur : Bs} (h : ¬ i < s.length) : sgl s i L cur = ([], s.length, 3) := by rw [sgl, dif_neg h]
theorem sgl_nl {s : Bs} {i : Nat} {L : List Pc} {cur : Bs} (h : i < s.length) (hb : byt s i = 10) (hm : mkA s (i + 1) = 0) : sgl s i L cur = sgl s (wh s (i + 1)) (L ++ [⟨cutW 0 cur, false⟩]) [] := by rw [sgl, dif_pos h, if_pos hb, if_pos hm]
theorem sgl_mk {s : Bs} {i : Nat} {L : List Pc} {cur : Bs} (h : i < s.length) (hb : byt s i = 10) (hm : ¬ mkA s (i + 1) = 0) : sgl s i L cur = ([], i + 1, 4) := by rw [sgl, dif_pos h, if_pos hb, if_neg hm]
theorem sgl_qq {s : Bs} {i : Nat} {L : List Pc} {cur : Bs} (h : i < s.length) (hb : byt s i = 39) (h2 : byt s (i + 1) = 39) : sgl s i L cur = sgl s (i + 2) L (cur ++ [39]) := by rw [sgl, dif_pos h, if_neg (by omega), if_pos ⟨hb, h2⟩]
theorem sgl_q {s : Bs} {i : Nat} {L : List Pc} {cur : Bs} (h : i < s.length) (hb : byt s i = 39) (h2 : ¬ byt s (i + 1) = 39) : sgl s i L cur = (foldT (L ++ [⟨cur, false⟩]), i + 1, 0) := by rw [sgl, dif_pos h, if_neg (by omega), if_neg (fun h => h2 h.2), if_pos hb]
theorem sgl_c {s : Bs} {i : Nat} {L : List Pc} {cur : Bs} (h : i < s.length) (hb : ¬ byt s i = 10) (h2 : ¬ byt s i = 39) : sgl s i L cur = sgl s (i + 1) L (cur ++ [s.getD i 0]) := by rw [sgl, dif_pos h, if_neg hb, if_neg (fun h => h2 h.1), if_neg h2]
def sgA (s : Bs) (p : Nat) : Bs × Nat × Int := if byt s p = 39 then sgl s (p + 1) [] [] else ([], p, 10)
def dbl (s : Bs) (i : Nat) (L : List Pc) (cur : Bs) (k : Nat) : Bs × Nat × Int :=
  if h : i < s.length then
    if byt s i = 10 then (if mkA s (i + 1) = 0 then dbl s (wh s (i + 1)) (L ++ [⟨cutW k cur, false⟩]) [] 0 else ([], i + 1, 4))
    else if byt s i = 92 ∧ byt s (i + 1) = 10 then (if mkA s (i + 2) = 0 then dbl s (wh s (i + 2)) (L ++ [⟨cur, true⟩]) [] 0 else ([], i + 2, 4))
    else if byt s i = 92 then (if h2 : (esA s i).2 ≤ i then ([], i, 5) else dbl s (esA s i).2 L (cur ++ (esA s i).1) (cur ++ (esA s i).1).length)
    else if byt s i = 34 then (foldT (L ++ [⟨cur, false⟩]), i + 1, 0)
    else dbl s (i + 1) L (cur ++ [s.getD i 0]) k
  else ([], s.length, 3)
termination_by s.length - i
decreasing_by
  · have := wh_ge s (i + 1); omega
  · have := wh_ge s (i + 2); omega
  · omega
  · omega
theorem dbl_end {s : Bs} {i : Nat} {L : List Pc} {cur : Bs} {k : Nat} (h : ¬ i < s.length) : dbl s i L cur k = ([], s.length, 3) := by rw [dbl, dif_neg h]
theorem dbl_nl {s : Bs} {i : Nat} {L : List Pc} {cur : Bs} {k : Nat} (h : i < s.length) (hb : byt s i = 10) (hm : mkA s (i + 1) = 0) : dbl s i L cur k = dbl s (wh s (i + 1)) (L ++ [⟨cutW k cur, false⟩]) [] 0 := by rw [dbl, dif_pos h, if_pos hb, if_pos hm]
theorem dbl_mk {s : Bs} {i : Nat} {L : List Pc} {cur : Bs} {k : Nat} (h : i < s.length) (hb : byt s i = 10) (hm : ¬ mkA s (i + 1) = 0) : dbl s i L cur k = ([], i + 1, 4) := by rw [dbl, dif_pos h, if_pos hb, if_neg hm]
theorem dbl_gl {s : Bs} {i : Nat} {L : List Pc} {cur : Bs} {k : Nat} (h : i < s.length) (hb : byt s i = 92) (h2 : byt s (i + 1) = 10) (hm : mkA s (i + 2) = 0) : dbl s i L cur k = dbl s (wh s (i + 2)) (L ++ [⟨cur, true⟩]) [] 0 := by rw [dbl, dif_pos h, if_neg (by omega), if_pos ⟨hb, h2⟩, if_pos hm]
theorem dbl_gm {s : Bs} {i : Nat} {L : List Pc} {cur : Bs} {k : Nat} (h : i < s.length) (hb : byt s i = 92) (h2 : byt s (i + 1) = 10) (hm : ¬ mkA s (i + 2) = 0) : dbl s i L cur k = ([], i + 2, 4) := by rw [dbl, dif_pos h, if_neg (by omega), if_pos ⟨hb, h2⟩, if_neg hm]
theorem dbl_eb {s : Bs} {i : Nat} {L : List Pc} {cur : Bs} {k : Nat} (h : i < s.length) (hb : byt s i = 92) (h2 : ¬ byt s (i + 1) = 10) (he : (esA s i).2 = 0) : dbl s i L cur k = ([], i, 5) := by rw [dbl, dif_pos h, if_neg (by omega), if_neg (fun h => h2 h.2), if_pos hb, dif_pos (by omega)]
theorem dbl_es {s : Bs} {i : Nat} {L : List Pc} {cur : Bs} {k : Nat} (h : i < s.length) (hb : byt s i = 92) (h2 : ¬ byt s (i + 1) = 10) (he : ¬ (esA s i).2 = 0) : dbl s i L cur k = dbl s (esA s i).2 L (cur ++ (esA s i).1) (cur ++ (esA s i).1).length := by
  rw [dbl, dif_pos h, if_neg (by omega), if_neg (fun h => h2 h.2), if_pos hb, dif_neg (by have := esA_gt s i; omega)]
theorem dbl_q {s : Bs} {i : Nat} {L : List Pc} {cur : Bs} {k : Nat} (h : i < s.length) (hb : byt s i = 34) : dbl s i L cur k = (foldT (L ++ [⟨cur, false⟩]), i + 1, 0) := by rw [dbl, dif_pos h, if_neg (by omega), if_neg (fun h => by omega), if_neg (by omega), if_pos hb]
theorem dbl_c {s : Bs} {i : Nat} {L : List Pc} {cur : Bs} {k : Nat} (h : i < s.length) (hb : ¬ byt s i = 10) (h2 : ¬ byt s i = 92) (h3 : ¬ byt s i = 34) : dbl s i L cur k = dbl s (i + 1) L (cur ++ [s.getD i 0]) k := by rw [dbl, dif_pos h, if_neg hb, if_neg (fun h => h2 h.1), if_neg h2, if_neg h3]
def dbA (s : Bs) (p : Nat) : Bs × Nat × Int := if byt s p = 34 then dbl s (p + 1) [] [] 0 else ([], p, 10)
theorem cutW_white {k : Nat} {b : Bs} {w : UInt8} (hk : k ≤ b.length) (hw : w = 32 ∨ w = 9) : cutW k (b ++ [w]) = cutW k b := by
  rw [cutW_t]
  · congr 1; simp
  · have e : (b ++ [w]).getD ((b ++ [w]).length - 1) 0 = w := by simp [List.getD]
    rw [e]
    exact ⟨by simp; omega, hw⟩
theorem cutW_non {k : Nat} {b : Bs} {w : UInt8} (hw : ¬ (w = 32 ∨ w = 9)) : cutW k (b ++ [w]) = b ++ [w] := by
  rw [cutW_f]
  have e : (b ++ [w]).getD ((b ++ [w]).length - 1) 0 = w := by simp [List.getD]
  rw [e]
  exact fun h => hw h.2
theorem cutW_all (b : Bs) : cutW b.length b = b := by
  rw [cutW_f]; rintro ⟨h, _⟩; omega
theorem cutW_nil (k : Nat) : cutW k [] = [] := by rw [cutW_f]; rintro ⟨h, _⟩; simp at h
theorem cutK_take (k : Nat) : ∀ (n : Nat) (b : Bs), b.take (cutK k n b).length = cutK k n b
  | 0, b => by simp [cutK]
  | n + 1, b => by
    unfold cutK
    split
    · have h := cutK_take k n (b.take (b.length - 1))
      rw [List.take_take] at h
      have hl := cutK_len k n (b.take (b.length - 1))
      rw [List.length_take] at hl
      rw [Nat.min_eq_left (by omega)] at h
      exact h
    · simp
theorem cutW_take (k : Nat) (b : Bs) : b.take (cutW k b).length = cutW k b := cutK_take k _ b
theorem pcW_one (e : Pc) : pcW [e] = e.text.length + 1 := by simp [pcW]
theorem sgl_place (s : Bs) (i : Nat) (L : List Pc) (cur : Bs) (h : i ≤ s.length) : i ≤ (sgl s i L cur).2.1 ∧ (sgl s i L cur).2.1 ≤ s.length ∧ ((sgl s i L cur).2.2 = 0 → i < (sgl s i L cur).2.1) := by
  fun_induction sgl s i L cur with
  | case1 i L cur h1 hb hm ih => have h2 := wh_ge s (i + 1); have h3 := wh_le s (i + 1) h1; have := ih h3; omega
  | case2 i L cur h1 hb hm => simp only; omega
  | case3 i L cur h1 hb h2 ih =>
    have h3 : i + 1 < s.length := by
      rcases Nat.lt_or_ge (i + 1) s.length with h4 | h4
      · exact h4
      · rw [byt_ge h4] at h2; omega
    have := ih (by omega); omega
  | case4 i L cur h1 hb h2 h3 => simp only; omega
  | case5 i L cur h1 hb h2 h3 ih => have := ih (by omega); omega
  | case6 i L cur h1 => simp only; omega
theorem dbl_place (s : Bs) (i : Nat) (L : List Pc) (cur : Bs) (k : Nat) (h : i ≤ s.length) : i ≤ (dbl s i L cur k).2.1 ∧ (dbl s i L cur k).2.1 ≤ s.length ∧ ((dbl s i L cur k).2.2 = 0 → i < (dbl s i L cur k).2.1) := by
  fun_induction dbl s i L cur k with
  | case1 i L cur k h1 hb hm ih => have h2 := wh_ge s (i + 1); have h3 := wh_le s (i + 1) h1; have := ih h3; omega
  | case2 i L cur k h1 hb hm => simp only; omega
  | case3 i L cur k h1 hb h2 hm ih =>
    have h3 : i + 1 < s.length := by
      rcases Nat.lt_or_ge (i + 1) s.length with h4 | h4
      · exact h4
      · rw [byt_ge h4] at h2; omega
    have h4 := wh_ge s (i + 2); have h5 := wh_le s (i + 2) h3; have := ih h5; omega
  | case4 i L cur k h1 hb h2 hm =>
    have h3 : i + 1 < s.length := by
      rcases Nat.lt_or_ge (i + 1) s.length with h4 | h4
      · exact h4
      · rw [byt_ge h4] at h2; omega
    simp only; omega
  | case5 i L cur k h1 hb h2 hq he => simp only; omega
  | case6 i L cur k h1 hb h2 hq he ih => have h3 := esA_le s i; have := ih h3; omega
  | case7 i L cur k h1 hb h2 hq hx => simp only; omega
  | case8 i L cur k h1 hb h2 hq hx ih => have := ih (by omega); omega
  | case9 i L cur k h1 => simp only; omega
theorem sgA_place {s : Bs} {p : Nat} (h : p ≤ s.length) : p ≤ (sgA s p).2.1 ∧ (sgA s p).2.1 ≤ s.length ∧ ((sgA s p).2.2 = 0 → p + 1 < (sgA s p).2.1) := by
  unfold sgA
  split
  · rename_i hb
    have hl : p < s.length := by
      rcases Nat.lt_or_ge p s.length with h1 | h1
      · exact h1
      · rw [byt_ge h1] at hb; omega
    have := sgl_place s (p + 1) [] [] hl
    omega
  · simp only; omega
theorem dbA_place {s : Bs} {p : Nat} (h : p ≤ s.length) : p ≤ (dbA s p).2.1 ∧ (dbA s p).2.1 ≤ s.length ∧ ((dbA s p).2.2 = 0 → p + 1 < (dbA s p).2.1) := by
  unfold dbA
  split
  · rename_i hb
    have hl : p < s.length := by
      rcases Nat.lt_or_ge p s.length with h1 | h1
      · exact h1
      · rw [byt_ge h1] at hb; omega
    have := dbl_place s (p + 1) [] [] 0 hl
    omega
  · simp only; omega
theorem nmA_place {s : Bs} {p : Nat} (h : p ≤ s.length) : 0 ≤ (nmA s p).2.1 ∧ (nmA s p).2.1 ≤ s.length ∧ ((nmA s p).2.2 = true → (p : Int) + 2 ≤ (nmA s p).2.1) := by
  unfold nmA
  split
  · rename_i hb
    have hl : p < s.length := by
      rcases Nat.lt_or_ge p s.length with h1 | h1
      · exact h1
      · rw [byt_ge h1] at hb; omega
    have := stc_le s (p + 1) hl
    simp only; omega
  · simp
/-- No break between two places. -/
def oneL (s : Bs) (p e : Nat) : Bool := decide (e ≤ en s p)
theorem mem_sub {s : Bs} {p e : Nat} (h1 : p ≤ e) (h2 : e ≤ s.length) : decide ((10 : UInt8) ∈ sub s p e) = !oneL s p e := by
  unfold oneL sub
  rw [Bool.eq_iff_iff]
  simp only [decide_eq_true_eq, Bool.not_eq_true', decide_eq_false_iff_not, Nat.not_le]
  have key : ∀ q, q < s.length → (isB s q = true ↔ s.getD q 0 = 10) := by
    intro q hq
    have h3 : ¬ ((s.getD q 0).toNat : Int) < 0 := by omega
    simp only [isB, byt_lt hq, Bool.or_eq_true, beq_iff_eq, decide_eq_true_eq, h3, or_false]
    have := u8_eq (c := s.getD q 0) (n := 10) (by decide)
    simp only [Int.cast_ofNat_Int] at this
    rw [this]; rfl
  constructor
  · intro hm
    obtain ⟨j, hj, hx⟩ := List.mem_iff_getElem.1 hm
    have hj2 : p + j < e := by simp only [List.length_drop, List.length_take] at hj; omega
    have hx2 : s.getD (p + j) 0 = 10 := by
      simp only [List.getElem_drop, List.getElem_take] at hx
      simp [List.getD, show p + j < s.length by omega, hx]
    rcases Nat.lt_or_ge (p + j) (en s p) with h3 | h3
    · have := en_lt (Nat.le_add_right p j) h3
      rw [(key _ (by omega)).2 hx2] at this; cases this
    · omega
  · intro hl
    have hB := en_isB s p
    have hx := (key _ (by omega)).1 hB
    have hg := en_ge s p
    refine List.mem_iff_getElem.2 ⟨en s p - p, by simp only [List.length_drop, List.length_take]; omega, ?_⟩
    simp only [List.getElem_drop, List.getElem_take, show p + (en s p - p) = en s p by omega]
    simpa [List.getD, show en s p < s.length by omega] using hx
/-- The end of a scalar of one line, as a key has it. -/
def keE (s : Bs) (p : Nat) : Int × Bool :=
  if byt s p = 42 then ((nmA s p).2.1, (nmA s p).2.2)
  else if byt s p = 39 then ((sgA s p).2.1, decide ((sgA s p).2.2 = 0) && oneL s p (sgA s p).2.1)
  else if byt s p = 34 then ((dbA s p).2.1, decide ((dbA s p).2.2 = 0) && oneL s p (dbA s p).2.1)
  else if pfA s p false = true then (plE s p false, decide (p < plE s p false))
  else (0, false)
theorem keE_place {s : Bs} {p : Nat} (h : p ≤ s.length) : 0 ≤ (keE s p).1 ∧ (keE s p).1 ≤ s.length ∧ ((keE s p).2 = true → (p : Int) < (keE s p).1) := by
  unfold keE
  have h1 := nmA_place h
  have h2 := sgA_place h
  have h3 := dbA_place h
  have h4 := plE_le s p false h
  split
  · exact ⟨h1.1, h1.2.1, fun hk => by have := h1.2.2 hk; omega⟩
  split
  · exact ⟨by simp only; omega, by simp only; omega, fun hk => by simp only [Bool.and_eq_true, decide_eq_true_eq] at hk; have := h2.2.2 hk.1; simp only; omega⟩
  split
  · exact ⟨by simp only; omega, by simp only; omega, fun hk => by simp only [Bool.and_eq_true, decide_eq_true_eq] at hk; have := h3.2.2 hk.1; simp only; omega⟩
  split
  · exact ⟨by simp only; omega, by simp only; omega, fun hk => by simp only [decide_eq_true_eq] at hk; simp only; omega⟩
  · simp
def kyA (s : Bs) (p : Nat) : Int × Int × Bool :=
  if (keE s p).2 = true ∧ (keE s p).1 - p ≤ 1000 ∧ byt s (wh s (keE s p).1.toNat) = 58 ∧ gap s (wh s (keE s p).1.toNat + 1) = true then ((keE s p).1, wh s (keE s p).1.toNat, true) else (0, 0, false)
theorem kyA_t {s : Bs} {p : Nat} (h : (keE s p).2 = true ∧ (keE s p).1 - p ≤ 1000 ∧ byt s (wh s (keE s p).1.toNat) = 58 ∧ gap s (wh s (keE s p).1.toNat + 1) = true) : kyA s p = ((keE s p).1, (wh s (keE s p).1.toNat : Int), true) := by unfold kyA; rw [if_pos h]
theorem kyA_f {s : Bs} {p : Nat} (h : ¬ ((keE s p).2 = true ∧ (keE s p).1 - p ≤ 1000 ∧ byt s (wh s (keE s p).1.toNat) = 58 ∧ gap s (wh s (keE s p).1.toNat + 1) = true)) : kyA s p = (0, 0, false) := by unfold kyA; rw [if_neg h]
end Go.Pl
