/- Draws, in plain words: a place in the code and a number that is stirred. -/
import Derived.Test.YtjphhddbkjdbnaaDoorBaseE
section
set_option linter.unusedVariables false
set_option linter.unusedSimpArgs false
namespace Go.Vg
set_option linter.unusedSectionVars false
variable [Go.Vg.Glob]
open Go.Pl
set_option linter.unusedVariables false
set_option linter.unusedSimpArgs false
def wr (a : Int) : Int := IntKind.wrap .i64 a
def andI (a b : Int) : Int := IntKind.wrap .i64 ((BitVec.ofInt (IntKind.bits .i64) a &&& BitVec.ofInt (IntKind.bits .i64) b).toNat)
def xorI (a b : Int) : Int := IntKind.wrap .i64 ((BitVec.ofInt (IntKind.bits .i64) a ^^^ BitVec.ofInt (IntKind.bits .i64) b).toNat)
theorem wr_id {a : Int} (h : -4611686018427387904 ≤ a ∧ a ≤ 4611686018427387904) : IntKind.wrap .i64 a = a := by
  have e : IntKind.wrap .i64 a = if (IntKind.signed .i64 && decide (a % (2 ^ IntKind.bits .i64 : Int) ≥ (2 ^ (IntKind.bits .i64 - 1) : Int))) = true then a % (2 ^ IntKind.bits .i64 : Int) - (2 ^ IntKind.bits .i64 : Int) else a % (2 ^ IntKind.bits .i64 : Int) := rfl
  have e1 : (2 ^ IntKind.bits .i64 : Int) = 18446744073709551616 := by decide
  have e2 : (2 ^ (IntKind.bits .i64 - 1) : Int) = 9223372036854775808 := by decide
  have e3 : IntKind.signed .i64 = true := rfl
  rw [e]
  simp only [e1, e2, e3, Bool.true_and, decide_eq_true_eq]
  split <;> omega
theorem andI_le {a : Int} {m : Nat} (hm : m < 4611686018427387904) : 0 ≤ andI a m ∧ andI a m ≤ m := by
  unfold andI
  have h1 : (BitVec.ofInt (IntKind.bits .i64) a &&& BitVec.ofInt (IntKind.bits .i64) (m : Int)).toNat ≤ m := by
    rw [BitVec.toNat_and]
    refine Nat.le_trans Nat.and_le_right ?_
    simp only [BitVec.toNat_ofInt, IntKind.bits]
    omega
  rw [wr_id (by omega)]
  omega
def drH (h : Int) : Int := wr (wr (h * 6364136223846793005) + 1442695040888963407)
def drX (h : Int) : Int := andI (xorI (h.fdiv (2 ^ (min 33 (IntKind.bits .i64)))) (h.fdiv (2 ^ (min 45 (IntKind.bits .i64))))) 255
def drByte (cd : Bs) (d : Nat × Int) : Int × Nat × Int :=
  if d.1 < cd.length then (andI (wr (drX (drH d.2) + wr ((cd.getD d.1 0).toNat : Nat))) 255, d.1 + 1, drH d.2) else (drX (drH d.2), d.1, drH d.2)
theorem drByte_range (cd : Bs) (d : Nat × Int) : 0 ≤ (drByte cd d).1 ∧ (drByte cd d).1 ≤ 255 := by
  unfold drByte
  split
  · exact andI_le (m := 255) (by decide)
  · exact andI_le (m := 255) (by decide)
theorem drByte_le {cd : Bs} {d : Nat × Int} (h : d.1 ≤ cd.length) : (drByte cd d).2.1 ≤ cd.length := by
  unfold drByte
  split
  · simp only; omega
  · exact h
def drBelow (cd : Bs) (n : Int) (d : Nat × Int) : Int × Nat × Int :=
  if n ≤ 0 then (0, d) else if n ≤ 256 then ((drByte cd d).1.tmod n, (drByte cd d).2) else
    (((drByte cd d).1 * 16777216 + (drByte cd (drByte cd d).2).1 * 65536 + (drByte cd (drByte cd (drByte cd d).2).2).1 * 256 + (drByte cd (drByte cd (drByte cd (drByte cd d).2).2).2).1).tmod n, (drByte cd (drByte cd (drByte cd (drByte cd d).2).2).2).2)
theorem tmod_in {a n : Int} (ha : 0 ≤ a) (hn : 0 < n) : 0 ≤ a.tmod n ∧ a.tmod n < n := by
  rw [Int.tmod_eq_emod_of_nonneg ha]
  exact ⟨Int.emod_nonneg _ (by omega), Int.emod_lt_of_pos _ hn⟩
theorem drBelow_range (cd : Bs) {n : Int} (d : Nat × Int) (hn : 0 < n) : 0 ≤ (drBelow cd n d).1 ∧ (drBelow cd n d).1 < n := by
  unfold drBelow
  rw [if_neg (by omega)]
  have h1 := drByte_range cd d
  have h2 := drByte_range cd (drByte cd d).2
  have h3 := drByte_range cd (drByte cd (drByte cd d).2).2
  have h4 := drByte_range cd (drByte cd (drByte cd (drByte cd d).2).2).2
  split
  · exact tmod_in h1.1 hn
  · exact tmod_in (by omega) hn
theorem drBelow_le {cd : Bs} {n : Int} {d : Nat × Int} (h : d.1 ≤ cd.length) : (drBelow cd n d).2.1 ≤ cd.length := by
  unfold drBelow
  split
  · exact h
  · split
    · exact drByte_le h
    · exact drByte_le (drByte_le (drByte_le (drByte_le h)))
def drGo (cd : Bs) : Nat → Int
  | 0 => wr (290417 + (cd.length : Nat))
  | i + 1 => andI (wr (wr (wr (drGo cd i * 149) + wr ((cd.getD i 0).toNat : Nat)) + 7)) 1073741823
def drNew (cd : Bs) : Nat × Int := (0, drGo cd (min cd.length 4000))
end Go.Vg
namespace Go.Vg
set_option linter.unusedSectionVars false
variable [Go.Vg.Glob]
open Go.Pl
theorem drBelow_big (cd : Bs) {n : Int} (d : Nat × Int) (h : ¬ n ≤ 0) (h2 : ¬ n ≤ 256) : drBelow cd n d = (((drByte cd d).1 * 16777216 + (drByte cd (drByte cd d).2).1 * 65536 + (drByte cd (drByte cd (drByte cd d).2).2).1 * 256 + (drByte cd (drByte cd (drByte cd (drByte cd d).2).2).2).1).tmod n, (drByte cd (drByte cd (drByte cd (drByte cd d).2).2).2).2) := by
  unfold drBelow
  rw [if_neg h, if_neg h2]
end Go.Vg
namespace Go.Vg
set_option linter.unusedSectionVars false
variable [Go.Vg.Glob]
open Go.Pl
def segW : List Bs := [[97], [98], [107], [107, 101, 121], [97, 32, 98], [], [105, 116, 39, 115], [49], [120, 47, 121], [195, 169], [45], [95, 122, 57], [42]]
def drSeg (cd : Bs) (n : Int) (d : Nat × Int) : Sg × Nat × Int :=
  if 1 + (drBelow cd n d).1 = 1 ∨ 1 + (drBelow cd n d).1 = 3 then (⟨1 + (drBelow cd n d).1, (drBelow cd 4 (drBelow cd n d).2).1, []⟩, (drBelow cd 4 (drBelow cd n d).2).2)
  else if 1 + (drBelow cd n d).1 = 2 then (⟨1 + (drBelow cd n d).1, 0, segW.getD (drBelow cd 13 (drBelow cd n d).2).1.toNat []⟩, (drBelow cd 13 (drBelow cd n d).2).2)
  else (⟨1 + (drBelow cd n d).1, 0, []⟩, (drBelow cd n d).2)
end Go.Vg
namespace Go.Vg
set_option linter.unusedSectionVars false
variable [Go.Vg.Glob]
open Go.Pl
theorem drSeg_eq (cd : Bs) (n : Int) (d : Nat × Int) : drSeg cd n d = if 1 + (drBelow cd n d).1 = 1 ∨ 1 + (drBelow cd n d).1 = 3 then (⟨1 + (drBelow cd n d).1, (drBelow cd 4 (drBelow cd n d).2).1, []⟩, (drBelow cd 4 (drBelow cd n d).2).2)
  else if 1 + (drBelow cd n d).1 = 2 then (⟨1 + (drBelow cd n d).1, 0, segW.getD (drBelow cd segW.length (drBelow cd n d).2).1.toNat []⟩, (drBelow cd segW.length (drBelow cd n d).2).2)
  else (⟨1 + (drBelow cd n d).1, 0, []⟩, (drBelow cd n d).2) := rfl
end Go.Vg
namespace Go.Vg
set_option linter.unusedSectionVars false
variable [Go.Vg.Glob]
open Go.Pl
def drSegs (cd : Bs) (n : Int) : Nat → List Sg → (Nat × Int) → List Sg × Nat × Int
  | 0, l, d => (l, d)
  | k + 1, l, d => drSegs cd n k (l ++ [(drSeg cd n d).1]) (drSeg cd n d).2
theorem drSeg_le {cd : Bs} {n : Int} {d : Nat × Int} (h : d.1 ≤ cd.length) : (drSeg cd n d).2.1 ≤ cd.length := by
  unfold drSeg
  repeat' split
  · exact drBelow_le (drBelow_le h)
  · exact drBelow_le (drBelow_le h)
  · exact drBelow_le h
theorem drSegs_len {cd : Bs} {n : Int} : ∀ (k : Nat) (l : List Sg) (d : Nat × Int), (drSegs cd n k l d).1.length = l.length + k
  | 0, l, d => rfl
  | k + 1, l, d => by simp only [drSegs]; rw [drSegs_len k]; simp; omega
theorem drNew_le {cd : Bs} : (drNew cd).1 ≤ cd.length := Nat.zero_le _
end Go.Vg
namespace Go.Vg
set_option linter.unusedSectionVars false
variable [Go.Vg.Glob]
open Go.Pl
theorem soLe_lit {μ : Nat → Nat} {l : List Bs} : soLe μ (.row false 1 l.length (rowE strc [] l)) (.row false 1 l.length (litEl (l.map SV.s) 1)) := by
  refine soLe_row fun j hj => ?_
  have h : litEl (l.map SV.s) 1 j = [SV.s (l.getD j [])] := by
    have h1 := litEl_get (l.map SV.s) 1 j 0 (by decide)
    have hl : (litEl (l.map SV.s) 1 j).length = 1 := by simp [litEl]; omega
    match hx : litEl (l.map SV.s) 1 j, hl with
    | [y], _ =>
      rw [hx] at h1
      simp only [List.getD_cons_zero] at h1
      rw [h1]
      simp [List.getD, hj]
  rw [h]
  rfl
end Go.Vg
namespace Go.Vg
set_option linter.unusedSectionVars false
variable [Go.Vg.Glob]
theorem bytc_inj {l m : List UInt8} : l.map bytc = m.map bytc ↔ l = m := map_inj fun a b h => by simp only [bytc, List.cons.injEq, SV.i.injEq, and_true, true_and] at h; exact UInt8.toNat_inj.1 (by omega)
end Go.Vg
namespace Go.Vg
set_option linter.unusedSectionVars false
variable [Go.Vg.Glob]
open Go.Pl
end Go.Vg
namespace Go.Vg
set_option linter.unusedSectionVars false
variable [Go.Vg.Glob]
open Go.Pl
end Go.Vg
namespace Go.Vg
set_option linter.unusedSectionVars false
variable [Go.Vg.Glob]
open Go.Pl
end Go.Vg
namespace Go.Vg
set_option linter.unusedSectionVars false
variable [Go.Vg.Glob]
open Go.Pl
end Go.Vg
namespace Go.Vg
set_option linter.unusedSectionVars false
variable [Go.Vg.Glob]
open Go.Pl
end Go.Vg
namespace Go.Vg
set_option linter.unusedSectionVars false
variable [Go.Vg.Glob]
open Go.RowKit
end Go.Vg
namespace Go.Vg
set_option linter.unusedSectionVars false
variable [Go.Vg.Glob]
open Go.Pl
end Go.Vg
namespace Go.Vg
set_option linter.unusedSectionVars false
variable [Go.Vg.Glob]
open Go.Pl
end Go.Vg
end
section
set_option linter.unusedVariables false
set_option linter.unusedSimpArgs false
namespace Go.Vg
set_option linter.unusedSectionVars false
set_option linter.unusedVariables false
set_option linter.unusedSimpArgs false
variable [Go.Vg.Glob]
open Go.Pl
theorem drSeg5_ok {cd : Bs} {d : Nat × Int} : sgOk (drSeg cd 5 d).1 = true := by
  have h1 := drBelow_range cd (n := 5) d (by omega)
  have h2 := drBelow_range cd (n := 4) (drBelow cd 5 d).2 (by omega)
  unfold drSeg sgOk
  repeat' split
  all_goals simp only [Bool.and_eq_true, Bool.or_eq_true, decide_eq_true_eq]
  all_goals (try (refine ⟨⟨?_, ?_⟩, ?_⟩))
  all_goals first | omega | (simp only [or_true, true_or]; done) | (left; omega) | (right; omega) | (right; trivial) | trivial
theorem drSegs5_ok {cd : Bs} : ∀ (k : Nat) (l : List Sg) (d : Nat × Int), (∀ s ∈ l, sgOk s = true) → ∀ s ∈ (drSegs cd 5 k l d).1, sgOk s = true
  | 0, l, d, h => h
  | k + 1, l, d, h => by
    simp only [drSegs]
    refine drSegs5_ok k _ _ ?_
    intro s hs
    simp only [List.mem_append, List.mem_singleton] at hs
    rcases hs with hs | hs
    · exact h s hs
    · subst hs; exact drSeg5_ok
def drMk (cd : Bs) : List Sg × Nat × Int := drSegs cd 5 (drBelow cd 7 (drNew cd)).1.toNat [] (drBelow cd 7 (drNew cd)).2
theorem drMk_ok {cd : Bs} : ∀ s ∈ (drMk cd).1, sgOk s = true := drSegs5_ok _ _ _ (by simp)
theorem drMk_len {cd : Bs} : (drMk cd).1.length ≤ 6 := by
  unfold drMk
  rw [drSegs_len]
  have := drBelow_range cd (n := 7) (drNew cd) (by omega)
  simp only [List.length_nil]
  omega
theorem segW_len : ∀ k, (segW.getD k []).length ≤ 100 := fun k => by
  by_cases h : k < segW.length
  · have : ∀ j, j < segW.length → (segW.getD j []).length ≤ 100 := by decide
    exact this k h
  · rw [List.getD_eq_getElem?_getD, List.getElem?_eq_none (by omega)]; simp
theorem drSeg_text {cd : Bs} {n : Int} {d : Nat × Int} : (drSeg cd n d).1.text.length ≤ 100 := by
  unfold drSeg
  repeat' split
  · simp
  · exact segW_len _
  · simp
theorem drSegs_text {cd : Bs} {n : Int} : ∀ (k : Nat) (l : List Sg) (d : Nat × Int), (∀ s ∈ l, s.text.length ≤ 100) → ∀ s ∈ (drSegs cd n k l d).1, s.text.length ≤ 100
  | 0, l, d, h => h
  | k + 1, l, d, h => by
    simp only [drSegs]
    refine drSegs_text k _ _ ?_
    intro s hs
    simp only [List.mem_append, List.mem_singleton] at hs
    rcases hs with hs | hs
    · exact h s hs
    · subst hs; exact drSeg_text
theorem drMk_text {cd : Bs} : ∀ s ∈ (drMk cd).1, s.text.length ≤ 100 := drSegs_text _ _ _ (by simp)
end Go.Vg
end
