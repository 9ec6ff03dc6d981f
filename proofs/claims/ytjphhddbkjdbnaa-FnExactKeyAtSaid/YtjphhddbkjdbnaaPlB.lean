/- Lines, marks, names, plain scalars and folded pieces, in plain words. -/
import Derived.Test.YtjphhddbkjdbnaaBaseE
namespace Go.Pl
set_option linter.unusedVariables false
set_option linter.unusedSimpArgs false
/-- The last place of a byte, or -1. -/
def lixU (s : Bs) (c : Int) : Nat → Int
  | 0 => -1
  | i + 1 => if ((s.getD i 0).toNat : Int) = c then (i : Int) else lixU s c i
def lix (s : Bs) (c : Int) : Int := lixU s c s.length
theorem lixU_ge (s : Bs) (c : Int) : ∀ i, -1 ≤ lixU s c i
  | 0 => by simp [lixU]
  | i + 1 => by unfold lixU; split; omega; exact lixU_ge s c i
theorem lixU_lt (s : Bs) (c : Int) : ∀ i, lixU s c i < i
  | 0 => by simp [lixU]
  | i + 1 => by unfold lixU; split; omega; have := lixU_lt s c i; omega
/-- The beginning of a line. -/
def la (s : Bs) : Nat → Nat
  | 0 => 0
  | i + 1 => if byt s i = 10 then i + 1 else la s i
theorem la_le (s : Bs) : ∀ i, la s i ≤ i
  | 0 => Nat.le_refl _
  | i + 1 => by unfold la; split; omega; have := la_le s i; omega
theorem lix_take {s : Bs} {p : Nat} (h : p ≤ s.length) : lix (s.take p) 10 + 1 = la s p := by
  have h1 : ∀ i, i ≤ p → lixU (s.take p) 10 i + 1 = la s i := by
    intro i
    induction i with
    | zero => intro _; rfl
    | succ i ih =>
      intro hi
      have e : (s.take p).getD i 0 = s.getD i 0 := by
        simp only [List.getD_eq_getElem?_getD, List.getElem?_take]; rw [if_pos (by omega)]
      unfold lixU la
      rw [e, byt_lt (by omega)]
      split
      · rfl
      · exact ih (by omega)
  unfold lix
  rw [List.length_take, Nat.min_eq_left h]
  exact h1 p (Nat.le_refl _)
theorem la_t {s : Bs} {i : Nat} (h : i < s.length) (hb : (s.getD i 0).toNat = 10) : la s (i + 1) = i + 1 := by
  unfold la; rw [byt_lt h, if_pos (by omega)]
theorem la_f {s : Bs} {i : Nat} (h : i < s.length) (hb : (s.getD i 0).toNat ≠ 10) : la s (i + 1) = la s i := by
  conv => lhs; unfold la
  rw [byt_lt h, if_neg (by omega)]
/-- A mark: 1, 2, or 0 where there is none. -/
def mkA (s : Bs) (p : Nat) : Int :=
  if la s p = p ∧ p + 3 ≤ s.length ∧ gap s (p + 3) = true then (if sub s p (p + 3) = [45, 45, 45] then 1 else if sub s p (p + 3) = [46, 46, 46] then 2 else 0) else 0
theorem mkA_range (s : Bs) (p : Nat) : mkA s p = 0 ∨ mkA s p = 1 ∨ mkA s p = 2 := by
  unfold mkA; repeat' split <;> simp_all
theorem mkA_bad {s : Bs} {p : Nat} (h : ¬ (la s p = p ∧ p + 3 ≤ s.length ∧ gap s (p + 3) = true)) : mkA s p = 0 := by unfold mkA; rw [if_neg h]
/-- The end of a stretch. -/
def stc (s : Bs) (i : Nat) : Nat := if h : gap s i = false ∧ flw (byt s i) = false then stc s (i + 1) else i
termination_by s.length - i
decreasing_by have := gap_not h.1; omega
theorem stc_t {s : Bs} {i : Nat} (h : gap s i = false ∧ flw (byt s i) = false) : stc s i = stc s (i + 1) := by rw [stc, dif_pos h]
theorem stc_f {s : Bs} {i : Nat} (h : ¬ (gap s i = false ∧ flw (byt s i) = false)) : stc s i = i := by rw [stc, dif_neg h]
theorem stc_ge (s : Bs) (i : Nat) : i ≤ stc s i := by
  fun_induction stc s i with
  | case1 i h ih => omega
  | case2 i h => omega
theorem stc_le (s : Bs) (i : Nat) (h : i ≤ s.length) : stc s i ≤ s.length := by
  fun_induction stc s i with
  | case1 i h' ih => exact ih (gap_not h'.1)
  | case2 i h' => exact h
/-- A name behind its sign. -/
def nmA (s : Bs) (p : Nat) : Bs × Int × Bool :=
  if (byt s p = 38 ∨ byt s p = 42) ∧ p + 2 ≤ stc s (p + 1) ∧ stc s (p + 1) ≤ p + 61 then (sub s (p + 1) (stc s (p + 1)), stc s (p + 1), true) else ([], 0, false)
structure Pc where
  text : Bs
  glue : Bool
deriving DecidableEq
def pcz : Pc := ⟨[], false⟩
/-- Pieces behind the first one, with so many breaks to be told. -/
def foldR (glue : Bool) (n : Nat) : List Pc → Bs
  | [] => []
  | x :: r => if x.text = [] ∧ x.glue = false ∧ r ≠ [] then foldR glue (n + 1) r
    else (if 0 < n then List.replicate n 10 else if glue then [] else [32]) ++ (x.text ++ foldR x.glue 0 r)
def foldT : List Pc → Bs
  | [] => []
  | x :: r => x.text ++ foldR x.glue 0 r
def pcW (l : List Pc) : Nat := (l.map fun x => x.text.length + 1).sum
theorem foldR_len (glue : Bool) : ∀ (l : List Pc) (n : Nat), (foldR glue n l).length ≤ n + pcW l := by
  intro l
  induction l generalizing glue with
  | nil => intro n; simp [foldR]
  | cons x r ih =>
    intro n
    unfold foldR
    have hw : pcW (x :: r) = x.text.length + 1 + pcW r := by simp [pcW]
    split
    · have := ih glue (n + 1); omega
    · have := ih x.glue 0
      simp only [List.length_append]
      split
      · simp; omega
      · split <;> simp <;> omega
theorem foldT_len (l : List Pc) : (foldT l).length ≤ pcW l := by
  cases l with
  | nil => simp [foldT]
  | cons x r =>
    have := foldR_len x.glue r 0
    have hw : pcW (x :: r) = x.text.length + 1 + pcW r := by simp [pcW]
    simp only [foldT, List.length_append]
    omega
theorem pcW_append (l m : List Pc) : pcW (l ++ m) = pcW l + pcW m := by simp [pcW]
theorem pcW_drop {l : List Pc} {i : Nat} (h : i < l.length) : pcW (l.drop i) = (l.getD i pcz).text.length + 1 + pcW (l.drop (i + 1)) := by
  have e : l.getD i pcz = l[i] := by simp [List.getD, h]
  rw [List.drop_eq_getElem_cons h, e]
  unfold pcW
  rw [List.map_cons, List.sum_cons]
theorem pcW_ge (l : List Pc) : l.length ≤ pcW l := by
  induction l with
  | nil => simp
  | cons x r ih =>
    have hw : pcW (x :: r) = x.text.length + 1 + pcW r := by simp [pcW]
    simp only [List.length_cons]; omega
/-- The first byte of a plain scalar. -/
def pfL : Bs := [44, 91, 93, 123, 125, 35, 38, 42, 33, 124, 62, 39, 34, 37, 64, 96]
def pfA (s : Bs) (p : Nat) (flow : Bool) : Bool :=
  !gap s p && !decide (s.getD p 0 ∈ pfL) && (!(decide (byt s p = 45) || decide (byt s p = 63) || decide (byt s p = 58)) || (!gap s (p + 1) && !(flow && flw (byt s (p + 1)))))
/-- What ends a plain scalar of a line. -/
def peX (s : Bs) (p : Nat) (flow : Bool) (q : Nat) : Bool :=
  (decide (byt s q = 35) && decide (p < q) && isW s (q - 1)) || (decide (byt s q = 58) && (gap s (q + 1) || (flow && flw (byt s (q + 1))))) || (flow && flw (byt s q))
def pe1 (s : Bs) (p : Nat) (flow : Bool) (q : Nat) : Nat := if h : isB s q = false ∧ peX s p flow q = false then pe1 s p flow (q + 1) else q
termination_by s.length - q
decreasing_by have := isB_not h.1; omega
theorem pe1_t {s : Bs} {p : Nat} {flow : Bool} {q : Nat} (h : isB s q = false ∧ peX s p flow q = false) : pe1 s p flow q = pe1 s p flow (q + 1) := by rw [pe1, dif_pos h]
theorem pe1_f {s : Bs} {p : Nat} {flow : Bool} {q : Nat} (h : ¬ (isB s q = false ∧ peX s p flow q = false)) : pe1 s p flow q = q := by rw [pe1, dif_neg h]
theorem pe1_ge (s : Bs) (p : Nat) (flow : Bool) (q : Nat) : q ≤ pe1 s p flow q := by
  fun_induction pe1 s p flow q with
  | case1 i h ih => omega
  | case2 i h => omega
theorem pe1_le (s : Bs) (p : Nat) (flow : Bool) (q : Nat) (h : q ≤ s.length) : pe1 s p flow q ≤ s.length := by
  fun_induction pe1 s p flow q with
  | case1 i h' ih => exact ih (isB_not h'.1)
  | case2 i h' => exact h
/-- Back over white. -/
def bkW (s : Bs) (p : Nat) : Nat → Nat
  | 0 => 0
  | q + 1 => if p < q + 1 ∧ isW s q = true then bkW s p q else q + 1
theorem bkW_le (s : Bs) (p : Nat) : ∀ q, bkW s p q ≤ q
  | 0 => Nat.le_refl _
  | q + 1 => by unfold bkW; split; have := bkW_le s p q; omega; omega
theorem bkW_ge (s : Bs) (p : Nat) : ∀ q, p ≤ q → p ≤ bkW s p q
  | 0, h => h
  | q + 1, h => by unfold bkW; split; rename_i h1; exact bkW_ge s p q (by omega); exact h
theorem bkW_t {s : Bs} {p q : Nat} (h0 : p < q) (h : isW s (q - 1) = true) : bkW s p q = bkW s p (q - 1) := by
  cases q with
  | zero => omega
  | succ q => conv => lhs; unfold bkW
              rw [if_pos ⟨h0, by simpa using h⟩]; rfl
theorem bkW_f {s : Bs} {p q : Nat} (h : ¬ (p < q ∧ isW s (q - 1) = true)) : bkW s p q = q := by
  cases q with
  | zero => rfl
  | succ q => unfold bkW; rw [if_neg (by simpa using h)]
def plE (s : Bs) (p : Nat) (flow : Bool) : Nat := bkW s p (pe1 s p flow p)
theorem plE_ge (s : Bs) (p : Nat) (flow : Bool) : p ≤ plE s p flow := bkW_ge s p _ (pe1_ge s p flow p)
theorem plE_le (s : Bs) (p : Nat) (flow : Bool) (h : p ≤ s.length) : plE s p flow ≤ s.length := Nat.le_trans (bkW_le s p _) (pe1_le s p flow p h)
/-- A rune's bytes. -/
def rnB (r : Int) : Bs :=
  if r < 0 ∨ 1114111 < r ∨ (55296 ≤ r ∧ r ≤ 57343) then []
  else if r < 128 then [UInt8.ofNat r.toNat]
  else if r < 2048 then [UInt8.ofNat (192 + r.toNat / 64), UInt8.ofNat (128 + r.toNat % 64)]
  else if r < 65536 then [UInt8.ofNat (224 + r.toNat / 4096), UInt8.ofNat (128 + r.toNat / 64 % 64), UInt8.ofNat (128 + r.toNat % 64)]
  else [UInt8.ofNat (240 + r.toNat / 262144), UInt8.ofNat (128 + r.toNat / 4096 % 64), UInt8.ofNat (128 + r.toNat / 64 % 64), UInt8.ofNat (128 + r.toNat % 64)]
theorem rnB_len (r : Int) : (rnB r).length ≤ 4 := by unfold rnB; split; simp; split; simp; split; simp; split <;> simp
/-- A digit of 16, or -1. -/
def hxD (b : Int) : Int := if 48 ≤ b ∧ b ≤ 57 then b - 48 else if 97 ≤ b ∧ b ≤ 102 then b - 97 + 10 else if 65 ≤ b ∧ b ≤ 70 then b - 65 + 10 else -1
/-- So many digits of 16 from a place on, behind a number; -1 where one is none. -/
def hxV (s : Bs) (p : Nat) : Nat → Int → Int
  | 0, a => a
  | n + 1, a => if hxD (byt s p) < 0 then -1 else hxV s (p + 1) n (16 * a + hxD (byt s p))
/-- The number of an escape of one byte, or -1. -/
def shL : List (Int × Int) := [(48, 0), (97, 7), (98, 8), (116, 9), (9, 9), (110, 10), (118, 11), (102, 12), (114, 13), (101, 27), (32, 32), (34, 34), (47, 47), (92, 92), (78, 133), (95, 160), (76, 8232), (80, 8233)]
def shE (b : Int) : Int := match shL.find? (fun p => p.1 == b) with
  | some p => p.2
  | none => -1
theorem shE_none {b : Int} (h : ∀ p ∈ shL, p.1 ≠ b) : shE b = -1 := by
  have : shL.find? (fun p => p.1 == b) = none := List.find?_eq_none.2 fun p hp => by simpa using h p hp
  unfold shE; rw [this]
theorem shE_at {b : Int} {i : Nat} (hi : i < 18) (h1 : (shL.getD i (0, 0)).1 = b) (h2 : ∀ j, j < i → (shL.getD j (0, 0)).1 ≠ b) : shE b = (shL.getD i (0, 0)).2 := by
  have hl : ∀ j, j < 18 → ∃ h : j < shL.length, shL.getD j (0, 0) = shL[j] := fun j hj => ⟨hj, by simp [List.getD, show j < shL.length from hj]; rfl⟩
  obtain ⟨hi', e⟩ := hl i hi
  have : shL.find? (fun p => p.1 == b) = some shL[i] := List.find?_eq_some_iff_getElem.2 ⟨by rw [← e]; simpa using h1, i, hi', rfl, fun j hj => by
    obtain ⟨hj', e2⟩ := hl j (by omega)
    have := h2 j hj
    rw [e2] at this
    simpa using this⟩
  unfold shE; rw [this, e]
theorem shE_range (b : Int) : -1 ≤ shE b ∧ shE b ≤ 8233 := by
  unfold shE
  split
  · rename_i p hp
    have hm := List.mem_of_find?_eq_some hp
    have : ∀ q ∈ shL, 0 ≤ q.2 ∧ q.2 ≤ 8233 := by decide
    have := this p hm
    omega
  · omega
theorem shE_none' {b : Int} (h : b ≠ 48 ∧ b ≠ 97 ∧ b ≠ 98 ∧ b ≠ 116 ∧ b ≠ 9 ∧ b ≠ 110 ∧ b ≠ 118 ∧ b ≠ 102 ∧ b ≠ 114 ∧ b ≠ 101 ∧ b ≠ 32 ∧ b ≠ 34 ∧ b ≠ 47 ∧ b ≠ 92 ∧ b ≠ 78 ∧ b ≠ 95 ∧ b ≠ 76 ∧ b ≠ 80) : shE b = -1 := by
  apply shE_none
  intro p hp
  simp only [shL, List.mem_cons, List.not_mem_nil, or_false] at hp
  rcases hp with rfl | rfl | rfl | rfl | rfl | rfl | rfl | rfl | rfl | rfl | rfl | rfl | rfl | rfl | rfl | rfl | rfl | rfl <;> simp only <;> omega
def hxN (b : Int) : Nat := if b = 120 then 2 else if b = 117 then 4 else if b = 85 then 8 else 0
/-- An escape: its text, and the place behind it (0 where there is none). -/
def esA (s : Bs) (p : Nat) : Bs × Nat :=
  if byt s p = 92 ∧ p + 1 < s.length then
    (if 0 ≤ shE (byt s (p + 1)) then (rnB (shE (byt s (p + 1))), p + 2)
     else if hxN (byt s (p + 1)) = 0 ∨ rnB (hxV s (p + 2) (hxN (byt s (p + 1))) 0) = [] then ([], 0)
     else (rnB (hxV s (p + 2) (hxN (byt s (p + 1))) 0), p + 2 + hxN (byt s (p + 1))))
  else ([], 0)
/-- White taken off an end, but not below a length. -/
def cutK (k : Nat) : Nat → Bs → Bs
  | 0, b => b
  | n + 1, b => if k < b.length ∧ (b.getD (b.length - 1) 0 = 32 ∨ b.getD (b.length - 1) 0 = 9) then cutK k n (b.take (b.length - 1)) else b
def cutW (k : Nat) (b : Bs) : Bs := cutK k b.length b
end Go.Pl
namespace Go.Pl
theorem nmA_t {s : Bs} {p : Nat} (h : (byt s p = 38 ∨ byt s p = 42) ∧ p + 2 ≤ stc s (p + 1) ∧ stc s (p + 1) ≤ p + 61) : nmA s p = (sub s (p + 1) (stc s (p + 1)), (stc s (p + 1) : Int), true) := by unfold nmA; rw [if_pos h]
theorem nmA_f {s : Bs} {p : Nat} (h : ¬ ((byt s p = 38 ∨ byt s p = 42) ∧ p + 2 ≤ stc s (p + 1) ∧ stc s (p + 1) ≤ p + 61)) : nmA s p = ([], 0, false) := by unfold nmA; rw [if_neg h]
theorem idx_ge (c : UInt8) : ∀ l : Bs, decide (idx l c ≥ 0) = decide (c ∈ l) := by
  intro l
  unfold idx
  cases h : l.findIdx? (· == c) with
  | none =>
    have := List.findIdx?_eq_none_iff.1 h
    have h2 : ¬ c ∈ l := fun hc => by simpa using this c hc
    simp [h2]
  | some i =>
    have := List.findIdx?_eq_some_iff_getElem.1 h
    obtain ⟨hi, h1, _⟩ := this
    have h2 : c ∈ l := by
      have e : l[i] = c := by simpa using h1
      rw [← e]; exact List.getElem_mem hi
    simp [h2]
end Go.Pl
namespace Go.Pl
theorem pfA_gap {s : Bs} {p : Nat} {fl : Bool} (h : gap s p = true) : pfA s p fl = false := by unfold pfA; rw [h]; rfl
theorem pfA_no {s : Bs} {p : Nat} {fl : Bool} (h : s.getD p 0 ∈ pfL) : pfA s p fl = false := by unfold pfA; rw [decide_eq_true h]; simp
theorem pfA_sign {s : Bs} {p : Nat} {fl : Bool} (hg : gap s p = false) (h : ¬ s.getD p 0 ∈ pfL) (hb : byt s p = 45 ∨ byt s p = 63 ∨ byt s p = 58) : pfA s p fl = (!gap s (p + 1) && !(fl && flw (byt s (p + 1)))) := by
  unfold pfA; rw [hg, decide_eq_false h]
  have : (decide (byt s p = 45) || decide (byt s p = 63) || decide (byt s p = 58)) = true := by rcases hb with h | h | h <;> simp [h]
  rw [this]; simp
theorem pfA_yes {s : Bs} {p : Nat} {fl : Bool} (hg : gap s p = false) (h : ¬ s.getD p 0 ∈ pfL) (hb : ¬ (byt s p = 45 ∨ byt s p = 63 ∨ byt s p = 58)) : pfA s p fl = true := by
  unfold pfA; rw [hg, decide_eq_false h]
  have : (decide (byt s p = 45) || decide (byt s p = 63) || decide (byt s p = 58)) = false := by simp at hb; simp [hb]
  rw [this]; simp
theorem u8_eq {c : UInt8} {n : Nat} (hn : n < 256) : ((c.toNat : Int) = n) = (c = UInt8.ofNat n) := by
  apply propext
  constructor
  · intro h
    apply UInt8.toNat_inj.1
    rw [UInt8.toNat_ofNat_of_lt' (by simpa using hn)]
    omega
  · rintro rfl
    rw [UInt8.toNat_ofNat_of_lt' (by simpa using hn)]
theorem u8_of (c : UInt8) : UInt8.ofNat c.toNat = c := by simp
theorem pfL_mem (c : UInt8) : (decide ((c.toNat : Int) = 64) || decide ((c.toNat : Int) = 96) || decide (c ∈ [44, 91, 93, 123, 125, 35, 38, 42, 33, 124, 62, 39, 34, 37])) = decide (c ∈ pfL) := by
  have h1 := u8_eq (c := c) (n := 64) (by decide)
  have h2 := u8_eq (c := c) (n := 96) (by decide)
  simp only [Int.cast_ofNat_Int] at h1 h2
  rw [Bool.eq_iff_iff]
  simp only [Bool.or_eq_true, decide_eq_true_eq, h1, h2, pfL, List.mem_cons, List.not_mem_nil, or_false]
  constructor
  · rintro ((h | h) | h)
    · simp [h]
    · simp [h]
    · rcases h with h | h | h | h | h | h | h | h | h | h | h | h | h | h <;> simp [h]
  · rintro (h | h | h | h | h | h | h | h | h | h | h | h | h | h | h | h) <;> simp [h]
end Go.Pl
namespace Go.Pl
theorem rnB_bad {r : Int} (h : r < 0 ∨ 1114111 < r ∨ (55296 ≤ r ∧ r ≤ 57343)) : rnB r = [] := by unfold rnB; rw [if_pos h]
theorem rnB_1 {n : Nat} (h : ¬ ((n : Int) < 0 ∨ 1114111 < (n : Int) ∨ (55296 ≤ (n : Int) ∧ (n : Int) ≤ 57343))) (h1 : n < 128) : rnB n = [UInt8.ofNat n] := by
  unfold rnB; rw [if_neg h, if_pos (by omega)]; rfl
theorem rnB_2 {n : Nat} (h : ¬ ((n : Int) < 0 ∨ 1114111 < (n : Int) ∨ (55296 ≤ (n : Int) ∧ (n : Int) ≤ 57343))) (h1 : ¬ n < 128) (h2 : n < 2048) : rnB n = [UInt8.ofNat (192 + n / 64), UInt8.ofNat (128 + n % 64)] := by
  unfold rnB; rw [if_neg h, if_neg (by omega), if_pos (by omega)]; rfl
theorem rnB_3 {n : Nat} (h : ¬ ((n : Int) < 0 ∨ 1114111 < (n : Int) ∨ (55296 ≤ (n : Int) ∧ (n : Int) ≤ 57343))) (h2 : ¬ n < 2048) (h3 : n < 65536) : rnB n = [UInt8.ofNat (224 + n / 4096), UInt8.ofNat (128 + n / 64 % 64), UInt8.ofNat (128 + n % 64)] := by
  unfold rnB; rw [if_neg h, if_neg (by omega), if_neg (by omega), if_pos (by omega)]; rfl
theorem rnB_4 {n : Nat} (h : ¬ ((n : Int) < 0 ∨ 1114111 < (n : Int) ∨ (55296 ≤ (n : Int) ∧ (n : Int) ≤ 57343))) (h3 : ¬ n < 65536) : rnB n = [UInt8.ofNat (240 + n / 262144), UInt8.ofNat (128 + n / 4096 % 64), UInt8.ofNat (128 + n / 64 % 64), UInt8.ofNat (128 + n % 64)] := by
  unfold rnB; rw [if_neg h, if_neg (by omega), if_neg (by omega), if_neg (by omega)]; rfl
theorem rnB_nil (r : Int) : rnB r = [] ↔ (r < 0 ∨ 1114111 < r ∨ (55296 ≤ r ∧ r ≤ 57343)) := by
  constructor
  · intro h
    by_cases hb : r < 0 ∨ 1114111 < r ∨ (55296 ≤ r ∧ r ≤ 57343)
    · exact hb
    · unfold rnB at h; rw [if_neg hb] at h; exfalso; revert h; split; simp; split; simp; split; simp; simp
  · exact rnB_bad
theorem hxV_neg {s : Bs} {p : Nat} {n : Nat} {a : Int} (h : hxD (byt s p) < 0) : hxV s p (n + 1) a = -1 := by unfold hxV; rw [if_pos h]
theorem hxV_step {s : Bs} {p : Nat} {n : Nat} {a : Int} (h : 0 ≤ hxD (byt s p)) : hxV s p (n + 1) a = hxV s (p + 1) n (16 * a + hxD (byt s p)) := by
  show (if hxD (byt s p) < 0 then -1 else hxV s (p + 1) n (16 * a + hxD (byt s p))) = _
  rw [if_neg (by omega)]
theorem hxD_1 {b : Int} (h1 : 48 ≤ b) (h2 : b ≤ 57) : hxD b = b - 48 := by unfold hxD; rw [if_pos ⟨h1, h2⟩]
theorem hxD_2 {b : Int} (h1 : 97 ≤ b) (h2 : b ≤ 102) : hxD b = b - 97 + 10 := by unfold hxD; rw [if_neg (by omega), if_pos ⟨h1, h2⟩]
theorem hxD_3 {b : Int} (h1 : 65 ≤ b) (h2 : b ≤ 70) : hxD b = b - 65 + 10 := by unfold hxD; rw [if_neg (by omega), if_neg (by omega), if_pos ⟨h1, h2⟩]
theorem hxD_n {b : Int} (h1 : ¬ (48 ≤ b ∧ b ≤ 57)) (h2 : ¬ (97 ≤ b ∧ b ≤ 102)) (h3 : ¬ (65 ≤ b ∧ b ≤ 70)) : hxD b = -1 := by unfold hxD; rw [if_neg h1, if_neg h2, if_neg h3]
theorem hx16 {i : Nat} (h : i ≤ 8) : 16 ^ i ≤ 4294967296 := Nat.le_trans (Nat.pow_le_pow_right (by decide) h) (by decide)
end Go.Pl
namespace Go.Pl
theorem esA_bad {s : Bs} {p : Nat} (h : ¬ (byt s p = 92 ∧ p + 1 < s.length)) : esA s p = ([], 0) := by unfold esA; rw [if_neg h]
theorem esA_short {s : Bs} {p : Nat} (h : byt s p = 92 ∧ p + 1 < s.length) (h1 : 0 ≤ shE (byt s (p + 1))) : esA s p = (rnB (shE (byt s (p + 1))), p + 2) := by unfold esA; rw [if_pos h, if_pos h1]
theorem esA_no {s : Bs} {p : Nat} (h : byt s p = 92 ∧ p + 1 < s.length) (h1 : ¬ 0 ≤ shE (byt s (p + 1))) (h2 : hxN (byt s (p + 1)) = 0 ∨ rnB (hxV s (p + 2) (hxN (byt s (p + 1))) 0) = []) : esA s p = ([], 0) := by unfold esA; rw [if_pos h, if_neg h1, if_pos h2]
theorem esA_hex {s : Bs} {p : Nat} (h : byt s p = 92 ∧ p + 1 < s.length) (h1 : ¬ 0 ≤ shE (byt s (p + 1))) (h2 : ¬ (hxN (byt s (p + 1)) = 0 ∨ rnB (hxV s (p + 2) (hxN (byt s (p + 1))) 0) = [])) : esA s p = (rnB (hxV s (p + 2) (hxN (byt s (p + 1))) 0), p + 2 + hxN (byt s (p + 1))) := by unfold esA; rw [if_pos h, if_neg h1, if_neg h2]
theorem hxN_le (b : Int) : hxN b ≤ 8 := by unfold hxN; split; omega; split; omega; split <;> omega
theorem hxV_le (s : Bs) : ∀ (n p : Nat) (a : Int), 0 ≤ a → (n ≤ 8 → a < 16 ^ (8 - n) → hxV s p n a ≤ 4294967296)
  | 0, p, a, h0, h1, h2 => by simp only [hxV]; have : (16 : Int) ^ (8 - 0) = 4294967296 := by decide
                              omega
  | n + 1, p, a, h0, h1, h2 => by
    unfold hxV
    split
    · omega
    · rename_i hd
      have hd2 : hxD (byt s p) ≤ 15 := by unfold hxD; split; omega; split; omega; split <;> omega
      refine hxV_le s n (p + 1) _ (by omega) (by omega) ?_
      have e : (16 : Int) ^ (8 - n) = 16 ^ (8 - (n + 1)) * 16 := by rw [← Int.pow_succ]; congr 1; omega
      omega
theorem esA_len (s : Bs) (p : Nat) : (esA s p).1.length ≤ 4 := by
  unfold esA
  split
  · split
    · exact rnB_len _
    · split
      · simp
      · exact rnB_len _
  · simp
theorem esA_gt (s : Bs) (p : Nat) : (esA s p).2 = 0 ∨ p + 2 ≤ (esA s p).2 := by
  unfold esA
  split
  · split
    · right; simp
    · split
      · left; rfl
      · right; simp only; omega
  · left; rfl
theorem hxV_all {s : Bs} {p : Nat} : ∀ {n : Nat} {a : Int}, 0 ≤ a → 0 < n → 0 ≤ hxV s p n a → p + n ≤ s.length
  | n, a, h0, hn, h => by
    have key : ∀ (n : Nat) (p : Nat) (a : Int), 0 ≤ a → 0 < n → 0 ≤ hxV s p n a → p + n ≤ s.length := by
      intro n
      induction n with
      | zero => intro p a _ h _; omega
      | succ n ih =>
        intro p a h0 _ h
        unfold hxV at h
        split at h
        · omega
        · rename_i hd
          have hp : p < s.length := by
            rcases Nat.lt_or_ge p s.length with h1 | h1
            · exact h1
            · rw [byt_ge h1] at hd; exact absurd (by decide) hd
          rcases Nat.eq_zero_or_pos n with hn | hn
          · omega
          · have := ih (p + 1) _ (by omega) hn h; omega
    exact key n p a h0 hn h
theorem esA_le (s : Bs) (p : Nat) : (esA s p).2 ≤ s.length := by
  unfold esA
  split
  · rename_i h
    split
    · simp only; omega
    · split
      · simp
      · rename_i h2
        simp only [not_or] at h2
        have h3 : 0 ≤ hxV s (p + 2) (hxN (byt s (p + 1))) 0 := by
          rcases Int.lt_or_le (hxV s (p + 2) (hxN (byt s (p + 1))) 0) 0 with h4 | h4
          · exact absurd (rnB_bad (.inl h4)) h2.2
          · exact h4
        exact hxV_all (Int.le_refl 0) (by omega) h3
  · simp
end Go.Pl
namespace Go.Pl
theorem foldR_drop {l : List Pc} {i : Nat} (h : i < l.length) {g : Bool} {n : Nat} : foldR g n (l.drop i) = if (l.getD i pcz).text = [] ∧ (l.getD i pcz).glue = false ∧ i + 1 < l.length then foldR g (n + 1) (l.drop (i + 1))
    else (if 0 < n then List.replicate n 10 else if g then [] else [32]) ++ ((l.getD i pcz).text ++ foldR (l.getD i pcz).glue 0 (l.drop (i + 1))) := by
  have e : l.getD i pcz = l[i] := by simp [List.getD, h]
  rw [List.drop_eq_getElem_cons h, e]
  have e2 : (l.drop (i + 1) ≠ []) = (i + 1 < l.length) := propext (by rw [ne_eq, List.drop_eq_nil_iff]; omega)
  conv => lhs; unfold foldR
  simp only [e2]
theorem foldR_skip {l : List Pc} {i : Nat} {g : Bool} {n : Nat} (h : i + 1 < l.length) (h1 : (l.getD i pcz).text = []) (h2 : (l.getD i pcz).glue = false) : foldR g n (l.drop i) = foldR g (n + 1) (l.drop (i + 1)) := by
  rw [foldR_drop (by omega), if_pos ⟨h1, h2, h⟩]
theorem foldR_put {l : List Pc} {i : Nat} {g : Bool} {n : Nat} (h : i < l.length) (h1 : ¬ ((l.getD i pcz).text = [] ∧ (l.getD i pcz).glue = false ∧ i + 1 < l.length)) : foldR g n (l.drop i) = (if 0 < n then List.replicate n 10 else if g then [] else [32]) ++ ((l.getD i pcz).text ++ foldR (l.getD i pcz).glue 0 (l.drop (i + 1))) := by
  rw [foldR_drop h, if_neg h1]
theorem foldT_cons {l : List Pc} (h : 0 < l.length) : foldT l = (l.getD 0 pcz).text ++ foldR (l.getD 0 pcz).glue 0 (l.drop 1) := by
  cases l with
  | nil => simp at h
  | cons x r => rfl
theorem cutW_t {k : Nat} {b : Bs} (h : k < b.length ∧ (b.getD (b.length - 1) 0 = 32 ∨ b.getD (b.length - 1) 0 = 9)) : cutW k b = cutW k (b.take (b.length - 1)) := by
  unfold cutW
  obtain ⟨n, hn⟩ : ∃ n, b.length = n + 1 := ⟨b.length - 1, by omega⟩
  have hl : (b.take (b.length - 1)).length = n := by rw [List.length_take]; omega
  rw [hl]
  conv => lhs; rw [hn]; unfold cutK
  rw [if_pos h]
theorem cutW_f {k : Nat} {b : Bs} (h : ¬ (k < b.length ∧ (b.getD (b.length - 1) 0 = 32 ∨ b.getD (b.length - 1) 0 = 9))) : cutW k b = b := by
  unfold cutW
  cases hb : b.length with
  | zero => rfl
  | succ n => unfold cutK; rw [if_neg h]
theorem cutK_len (k : Nat) : ∀ (n : Nat) (b : Bs), (cutK k n b).length ≤ b.length
  | 0, b => Nat.le_refl _
  | n + 1, b => by
    unfold cutK
    split
    · have := cutK_len k n (b.take (b.length - 1)); rw [List.length_take] at this; omega
    · exact Nat.le_refl _
theorem cutW_len (k : Nat) (b : Bs) : (cutW k b).length ≤ b.length := cutK_len k _ b
theorem repl_snoc {n : Nat} {x : UInt8} {o : Bs} : o ++ [x] ++ List.replicate n x = o ++ List.replicate (n + 1) x := by
  rw [List.replicate_succ, List.append_assoc]; rfl
end Go.Pl
