/- Events, in plain words. -/
import Derived.Test.YtjphhddbkjdbnaaPlA
namespace Go.Pl
set_option linter.unusedVariables false
set_option linter.unusedSimpArgs false
structure Ev where
  kind : Int
  style : Int
  flag : Bool
  text : Bs
  anchor : Bs
  tag : Bs
  pos : Int
  code : Int
deriving DecidableEq
def evz : Ev := ⟨0, 0, false, [], [], [], 0, 0⟩
def flw (b : Int) : Bool := b == 44 || b == 91 || b == 93 || b == 123 || b == 125
def nmc (b : Int) : Bool := b == 32 || b == 9 || (b == 10 || decide (b < 0)) || flw b
/-- A name, or none. -/
def isNm (s : Bs) : Bool := decide (s.length ≤ 60 ∧ ∀ j, j < s.length → nmc (s.getD j 0).toNat = false)
theorem isNm_bad {s : Bs} {j : Nat} (h : j < s.length) (hb : nmc (s.getD j 0).toNat = true) : isNm s = false := by
  unfold isNm
  rw [decide_eq_false_iff_not]
  rintro ⟨_, h2⟩
  rw [h2 j h] at hb
  cases hb
theorem isNm_nil : isNm [] = true := by decide
def evOk (e : Ev) : Bool :=
  decide (1 ≤ e.kind ∧ e.kind ≤ 10) &&
  (if e.kind = 3 ∨ e.kind = 4 then decide (6 ≤ e.style ∧ e.style ≤ 7) else if e.kind = 5 then decide (1 ≤ e.style ∧ e.style ≤ 5) else decide (e.style = 0)) &&
  (!e.flag || decide (e.kind = 2 ∨ e.kind = 8)) && (decide (e.text = []) || decide (e.kind = 5 ∨ e.kind = 6)) &&
  (decide (e.anchor = [] ∧ e.tag = []) || decide (e.kind = 3 ∨ e.kind = 4 ∨ e.kind = 5)) &&
  (if e.kind = 10 then decide (1 ≤ e.code ∧ e.code ≤ 99 ∧ 0 ≤ e.pos) else
    (!decide (e.kind = 6) || (!decide (e.text = []) && isNm e.text)) && isNm e.anchor && decide (e.tag.length ≤ 120) && decide (e.code = 0 ∧ e.pos = 0))
end Go.Pl
namespace Go.Pl
theorem isNm_step {s : Bs} {i : Nat} (hj : ∀ j, j < i → nmc (s.getD j 0).toNat = false) (hn : nmc (s.getD i 0).toNat = false) : ∀ j, j < i + 1 → nmc (s.getD j 0).toNat = false := by
  intro j h
  rcases Nat.lt_or_ge j i with h1 | h1
  · exact hj j h1
  · obtain rfl : j = i := by omega
    exact hn
theorem isNm_all {s : Bs} (h : s.length ≤ 60) (hj : ∀ j, j < s.length → nmc (s.getD j 0).toNat = false) : isNm s = true := by
  unfold isNm
  rw [decide_eq_true_eq]
  exact ⟨h, hj⟩
theorem isNm_end {s : Bs} (hj : ∀ j, j < s.length → nmc (s.getD j 0).toNat = false) : isNm s = decide (s.length ≤ 60) := by
  unfold isNm
  rw [decide_eq_decide]
  exact ⟨fun h => h.1, fun h => ⟨h, hj⟩⟩
end Go.Pl
namespace Go.Pl
theorem nmc_gap {s : Bs} {i : Nat} (h : i < s.length) : (gap s i || flw (s.getD i 0).toNat) = nmc (s.getD i 0).toNat := by
  unfold gap isW isB nmc
  rw [byt_lt h]
end Go.Pl
namespace Go.Pl
def evsz (e : Ev) : Nat := e.text.length + e.anchor.length + e.tag.length
def evW (l : List Ev) : Nat := (l.map evsz).sum
theorem evW_take {l : List Ev} {i : Nat} (h : i < l.length) : evW (l.take (i + 1)) = evW (l.take i) + evsz (l.getD i evz) := by
  have : l.take (i + 1) = l.take i ++ [l.getD i evz] := by
    rw [List.take_succ_eq_append_getElem h]
    simp [List.getD, h]
  rw [this]
  simp [evW]
theorem evW_le {l : List Ev} (i : Nat) : evW (l.take i) ≤ evW l := by
  have : evW l = evW (l.take i) + evW (l.drop i) := by
    conv => lhs; rw [← List.take_append_drop i l]
    simp [evW, -List.take_append_drop]
  omega
theorem evW_mem {l : List Ev} {i : Nat} (h : i < l.length) : evsz (l.getD i evz) ≤ evW l := by
  have := evW_take h
  have := evW_le (l := l) (i + 1)
  omega
end Go.Pl
