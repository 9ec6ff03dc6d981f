/- Draws, in plain words: a place in the code and a number that is stirred. -/
import Derived.Test.YtlbahpbnnmgpnaaVgSg
namespace Go.Vg
open Go.Pl
set_option linter.unusedVariables false
set_option linter.unusedSimpArgs false
def wr (a : Int) : Int := IntKind.wrap .i64 a
def andI (a b : Int) : Int := IntKind.wrap .i64 ((BitVec.ofInt (IntKind.bits .i64) a &&& BitVec.ofInt (IntKind.bits .i64) b).toNat)
def xorI (a b : Int) : Int := IntKind.wrap .i64 ((BitVec.ofInt (IntKind.bits .i64) a ^^^ BitVec.ofInt (IntKind.bits .i64) b).toNat)
theorem wr_id {a : Int} (h : -4611686018427387904 ≤ a ∧ a ≤ 4611686018427387904) : IntKind.wrap .i64 a = a := by
  have e : IntKind.wrap .i64 a = if (IntKind.signed .i64 && decide (a % (2 ^ IntKind.bits .i64 : Int) ≥ (2 ^ (IntKind.bits .i64 - 1) : Int))) = true then a % (2 ^ IntKind.bits .i64 : Int) - (2 ^ IntKind.bits .i64 : Int) else a % (2 ^ IntKind.bits .i64 : Int) := rfl
  have e1 : (2 ^ IntKind.bits .i64 : Int) = 18446744073709551616 := by decide
  have e2 : (2 ^ (IntKind.bits .i64 - 1) : Int) = 9223372036854775808 := by decide
  have e3 : IntKind.signed .i64 = true := rfl
  rw [e]
  simp only [e1, e2, e3, Bool.true_and, decide_eq_true_eq]
  split <;> omega
theorem andI_le {a : Int} {m : Nat} (hm : m < 4611686018427387904) : 0 ≤ andI a m ∧ andI a m ≤ m := by
  unfold andI
  have h1 : (BitVec.ofInt (IntKind.bits .i64) a &&& BitVec.ofInt (IntKind.bits .i64) (m : Int)).toNat ≤ m := by
    rw [BitVec.toNat_and]
    refine Nat.le_trans Nat.and_le_right ?_
    simp only [BitVec.toNat_ofInt, IntKind.bits]
    omega
  rw [wr_id (by omega)]
  omega
def drH (h : Int) : Int := wr (wr (h * 6364136223846793005) + 1442695040888963407)
def drX (h : Int) : Int := andI (xorI (h.fdiv (2 ^ (min 33 (IntKind.bits .i64)))) (h.fdiv (2 ^ (min 45 (IntKind.bits .i64))))) 255
def drByte (cd : Bs) (d : Nat × Int) : Int × Nat × Int :=
  if d.1 < cd.length then (andI (wr (drX (drH d.2) + wr ((cd.getD d.1 0).toNat : Nat))) 255, d.1 + 1, drH d.2) else (drX (drH d.2), d.1, drH d.2)
theorem drByte_range (cd : Bs) (d : Nat × Int) : 0 ≤ (drByte cd d).1 ∧ (drByte cd d).1 ≤ 255 := by
  unfold drByte
  split
  · exact andI_le (m := 255) (by decide)
  · exact andI_le (m := 255) (by decide)
theorem drByte_le {cd : Bs} {d : Nat × Int} (h : d.1 ≤ cd.length) : (drByte cd d).2.1 ≤ cd.length := by
  unfold drByte
  split
  · simp only; omega
  · exact h
def drBelow (cd : Bs) (n : Int) (d : Nat × Int) : Int × Nat × Int :=
  if n ≤ 0 then (0, d) else if n ≤ 256 then ((drByte cd d).1.tmod n, (drByte cd d).2) else
    (((drByte cd d).1 * 16777216 + (drByte cd (drByte cd d).2).1 * 65536 + (drByte cd (drByte cd (drByte cd d).2).2).1 * 256 + (drByte cd (drByte cd (drByte cd (drByte cd d).2).2).2).1).tmod n, (drByte cd (drByte cd (drByte cd (drByte cd d).2).2).2).2)
theorem tmod_in {a n : Int} (ha : 0 ≤ a) (hn : 0 < n) : 0 ≤ a.tmod n ∧ a.tmod n < n := by
  rw [Int.tmod_eq_emod_of_nonneg ha]
  exact ⟨Int.emod_nonneg _ (by omega), Int.emod_lt_of_pos _ hn⟩
theorem drBelow_range (cd : Bs) {n : Int} (d : Nat × Int) (hn : 0 < n) : 0 ≤ (drBelow cd n d).1 ∧ (drBelow cd n d).1 < n := by
  unfold drBelow
  rw [if_neg (by omega)]
  have h1 := drByte_range cd d
  have h2 := drByte_range cd (drByte cd d).2
  have h3 := drByte_range cd (drByte cd (drByte cd d).2).2
  have h4 := drByte_range cd (drByte cd (drByte cd (drByte cd d).2).2).2
  split
  · exact tmod_in h1.1 hn
  · exact tmod_in (by omega) hn
theorem drBelow_le {cd : Bs} {n : Int} {d : Nat × Int} (h : d.1 ≤ cd.length) : (drBelow cd n d).2.1 ≤ cd.length := by
  unfold drBelow
  split
  · exact h
  · split
    · exact drByte_le h
    · exact drByte_le (drByte_le (drByte_le (drByte_le h)))
def drGo (cd : Bs) : Nat → Int
  | 0 => wr (290417 + (cd.length : Nat))
  | i + 1 => andI (wr (wr (wr (drGo cd i * 149) + wr ((cd.getD i 0).toNat : Nat)) + 7)) 1073741823
def drNew (cd : Bs) : Nat × Int := (0, drGo cd (min cd.length 4000))
def drC (cd : Bs) (d : Nat × Int) : SO := .blk false [.fs 1 (cd.map bytc), .i .i64 (d.1 : Nat), .i .i64 d.2]
end Go.Vg
namespace Go.Vg
open Go.Pl
theorem drBelow_big (cd : Bs) {n : Int} (d : Nat × Int) (h : ¬ n ≤ 0) (h2 : ¬ n ≤ 256) : drBelow cd n d = (((drByte cd d).1 * 16777216 + (drByte cd (drByte cd d).2).1 * 65536 + (drByte cd (drByte cd (drByte cd d).2).2).1 * 256 + (drByte cd (drByte cd (drByte cd (drByte cd d).2).2).2).1).tmod n, (drByte cd (drByte cd (drByte cd (drByte cd d).2).2).2).2) := by
  unfold drBelow
  rw [if_neg h, if_neg h2]
end Go.Vg
namespace Go.Vg
open Go.Pl
def segW : List Bs := [[97], [98], [107], [107, 101, 121], [97, 32, 98], [], [105, 116, 39, 115], [49], [120, 47, 121], [195, 169], [45], [95, 122, 57], [42]]
def drSeg (cd : Bs) (n : Int) (d : Nat × Int) : Sg × Nat × Int :=
  if 1 + (drBelow cd n d).1 = 1 ∨ 1 + (drBelow cd n d).1 = 3 then (⟨1 + (drBelow cd n d).1, (drBelow cd 4 (drBelow cd n d).2).1, []⟩, (drBelow cd 4 (drBelow cd n d).2).2)
  else if 1 + (drBelow cd n d).1 = 2 then (⟨1 + (drBelow cd n d).1, 0, segW.getD (drBelow cd 13 (drBelow cd n d).2).1.toNat []⟩, (drBelow cd 13 (drBelow cd n d).2).2)
  else (⟨1 + (drBelow cd n d).1, 0, []⟩, (drBelow cd n d).2)
end Go.Vg
namespace Go.Vg
open Go.Pl
theorem drSeg_eq (cd : Bs) (n : Int) (d : Nat × Int) : drSeg cd n d = if 1 + (drBelow cd n d).1 = 1 ∨ 1 + (drBelow cd n d).1 = 3 then (⟨1 + (drBelow cd n d).1, (drBelow cd 4 (drBelow cd n d).2).1, []⟩, (drBelow cd 4 (drBelow cd n d).2).2)
  else if 1 + (drBelow cd n d).1 = 2 then (⟨1 + (drBelow cd n d).1, 0, segW.getD (drBelow cd segW.length (drBelow cd n d).2).1.toNat []⟩, (drBelow cd segW.length (drBelow cd n d).2).2)
  else (⟨1 + (drBelow cd n d).1, 0, []⟩, (drBelow cd n d).2) := rfl
end Go.Vg
namespace Go.Vg
open Go.Pl
def drSegs (cd : Bs) (n : Int) : Nat → List Sg → (Nat × Int) → List Sg × Nat × Int
  | 0, l, d => (l, d)
  | k + 1, l, d => drSegs cd n k (l ++ [(drSeg cd n d).1]) (drSeg cd n d).2
theorem drSeg_le {cd : Bs} {n : Int} {d : Nat × Int} (h : d.1 ≤ cd.length) : (drSeg cd n d).2.1 ≤ cd.length := by
  unfold drSeg
  repeat' split
  · exact drBelow_le (drBelow_le h)
  · exact drBelow_le (drBelow_le h)
  · exact drBelow_le h
theorem drSegs_len {cd : Bs} {n : Int} : ∀ (k : Nat) (l : List Sg) (d : Nat × Int), (drSegs cd n k l d).1.length = l.length + k
  | 0, l, d => rfl
  | k + 1, l, d => by simp only [drSegs]; rw [drSegs_len k]; simp; omega
/-- Steps of the first two kinds, all right. -/
def okSeg (s : Sg) : Prop := sgOk s = true ∧ s.kind ≠ 4 ∧ s.kind ≠ 5
theorem drSeg_ok {cd : Bs} {d : Nat × Int} : okSeg (drSeg cd 2 d).1 := by
  have h1 := drBelow_range cd (n := 2) d (by omega)
  have h2 := drBelow_range cd (n := 4) (drBelow cd 2 d).2 (by omega)
  unfold drSeg okSeg sgOk
  repeat' split
  all_goals simp only [Bool.and_eq_true, Bool.or_eq_true, decide_eq_true_eq]
  all_goals (try (refine ⟨⟨⟨?_, ?_⟩, ?_⟩, ?_, ?_⟩))
  all_goals first | omega | (simp only [or_true, true_or]; done) | (left; omega) | (right; omega) | (right; trivial)
theorem drSegs_ok {cd : Bs} : ∀ (k : Nat) (l : List Sg) (d : Nat × Int), (∀ s ∈ l, okSeg s) → ∀ s ∈ (drSegs cd 2 k l d).1, okSeg s
  | 0, l, d, h => h
  | k + 1, l, d, h => by
    simp only [drSegs]
    refine drSegs_ok k _ _ ?_
    intro s hs
    simp only [List.mem_append, List.mem_singleton] at hs
    rcases hs with hs | hs
    · exact h s hs
    · subst hs; exact drSeg_ok
def drPath (cd : Bs) : List Sg × Nat × Int := drSegs cd 2 (drBelow cd 7 (drNew cd)).1.toNat [] (drBelow cd 7 (drNew cd)).2
theorem drPath_ok {cd : Bs} : ∀ s ∈ (drPath cd).1, okSeg s := drSegs_ok _ _ _ (by simp)
theorem drPath_len {cd : Bs} : (drPath cd).1.length ≤ 6 := by
  unfold drPath
  rw [drSegs_len]
  have := drBelow_range cd (n := 7) (drNew cd) (by omega)
  simp only [List.length_nil]
  omega
theorem drNew_le {cd : Bs} : (drNew cd).1 ≤ cd.length := Nat.zero_le _
end Go.Vg
namespace Go.Vg
open Go.Pl
theorem soLe_lit {μ : Nat → Nat} {l : List Bs} : soLe μ (.row false 1 l.length (rowE strc [] l)) (.row false 1 l.length (litEl (l.map SV.s) 1)) := by
  refine soLe_row fun j hj => ?_
  have h : litEl (l.map SV.s) 1 j = [SV.s (l.getD j [])] := by
    have h1 := litEl_get (l.map SV.s) 1 j 0 (by decide)
    have hl : (litEl (l.map SV.s) 1 j).length = 1 := by simp [litEl]; omega
    match hx : litEl (l.map SV.s) 1 j, hl with
    | [y], _ =>
      rw [hx] at h1
      simp only [List.getD_cons_zero] at h1
      rw [h1]
      simp [List.getD, hj]
  rw [h]
  rfl
end Go.Vg
namespace Go.Vg
theorem bytc_inj {l m : List UInt8} : l.map bytc = m.map bytc ↔ l = m := map_inj fun a b h => by simp only [bytc, List.cons.injEq, SV.i.injEq, and_true, true_and] at h; exact UInt8.toNat_inj.1 (by omega)
end Go.Vg
namespace Go.Vg
open Go.Pl
theorem rowList_eq {f : Nat → List SV} {n : Nat} (xs : List (List SV)) (hn : xs.length = n) (h : ∀ j, j < n → f j = xs.getD j []) : rowList f 0 n = xs := by
  subst hn
  unfold rowList
  apply List.ext_getElem
  · simp
  · intro i h1 h2
    simp only [List.getElem_map, List.getElem_range, Nat.zero_add]
    rw [h i h2]
    simp [List.getD, h2]
theorem mtc_same : ∀ (l : List Sg), (∀ s ∈ l, okSeg s) → mtc l l = true
  | [], _ => by rw [mtc]; rfl
  | s :: l, h => by
    have hs := h s (by simp)
    rw [mtc, if_neg hs.2.2]
    simp [mtc_same l fun x hx => h x (by simp [hx])]
theorem mtc_any : ∀ (l : List Sg), mtc (List.replicate l.length ⟨4, 0, []⟩) l = true
  | [] => by simp [mtc]
  | s :: l => by
    simp only [List.length_cons, List.replicate_succ]
    rw [mtc, if_neg (by simp)]
    simp [mtc_any l]
theorem mtc_more : ∀ (l : List Sg), mtc (List.replicate l.length ⟨4, 0, []⟩ ++ [⟨4, 0, []⟩]) l = false
  | [] => by simp [mtc]
  | s :: l => by
    simp only [List.length_cons, List.replicate_succ, List.cons_append]
    rw [mtc, if_neg (by simp)]
    simp [mtc_more l]
theorem mtc_all (l : List Sg) : mtc [⟨5, 0, []⟩] l = true := by
  rw [mtc_deep0 rfl]
  exact ⟨l.length, Nat.le_refl _, by rw [List.drop_length, mtc]; rfl⟩
theorem mtc_both (l : List Sg) (h : ∀ s ∈ l, okSeg s) : mtc (⟨5, 0, []⟩ :: l) l = true := by
  rw [mtc_deep0 rfl]
  exact ⟨0, Nat.zero_le _, by rw [List.drop_zero]; exact mtc_same l h⟩
theorem sgsOk_of {l : List Sg} (h : ∀ s ∈ l, okSeg s) : sgsOk l = true := by
  unfold sgsOk
  rw [List.all_eq_true]
  exact fun s hs => (h s hs).1
theorem sgsOk_any (n : Nat) : sgsOk (List.replicate n ⟨4, 0, []⟩) = true := by
  unfold sgsOk
  rw [List.all_eq_true]
  intro s hs
  rw [(List.mem_replicate.1 hs).2]
  decide
end Go.Vg
namespace Go.Vg
open Go.Pl
theorem getD_mapc {α β : Type} {f : α → β} {l : List α} {j : Nat} (z : α) {d : β} (h : j < l.length) : (l.map f).getD j d = f (l.getD j z) := by
  simp [List.getD, h]
theorem getD_rep {α : Type} {n j : Nat} {w z : α} (h : j < n) : (List.replicate n w).getD j z = w := by
  simp [List.getD, h]
end Go.Vg
namespace Go.Vg
open Go.Pl
theorem soLe_rep {μ : Nat → Nat} {i : Nat} {w : Sg} {f : Nat → List SV} (hf : ∀ j, j < i → f j = rowE segc sgz (List.replicate i w) j) : soLe μ (.row false 3 (i + 1) (rowE segc sgz (List.replicate (i + 1) w))) (.row false 3 (i + 1) (catF i f fun j => litEl (segc w) 3 j)) := by
  refine soLe_row fun j hj => ?_
  have hj2 : j < i ∨ j = i := by omega
  rcases hj2 with h2 | h2
  · simp only [catF, if_pos h2, hf j h2, rowE, getD_rep hj, getD_rep h2]; rfl
  · subst h2
    simp only [catF, Nat.lt_irrefl, if_false, rowE, getD_rep hj, Nat.sub_self]; rfl
end Go.Vg
namespace Go.Vg
open Go.Pl
theorem catB {l : List Sg} {w : Sg} {f : Nat → List SV} (j : Nat) (hj : j < 1 + l.length) : catF 1 (fun j => catF 0 f (fun j => litEl (segc w) 3 j) j) (fun j => (l.map segc).getD j []) j = segc ((w :: l).getD j sgz) := by
  rcases j with _ | j
  · rfl
  · simp only [catF, if_neg (show ¬ j + 1 < 1 by omega), Nat.add_sub_cancel, List.getD_cons_succ]
    exact getD_mapc sgz (by omega)
theorem catM {n : Nat} {w : Sg} {f g : Nat → List SV} (hg : ∀ j, j < n → g j = segc w) (j : Nat) (hj : j < n + 1) : catF n (fun j => catF 0 f g j) (fun j => litEl (segc w) 3 j) j = segc ((List.replicate n w ++ [w]).getD j sgz) := by
  rw [← List.replicate_succ', getD_rep hj]
  by_cases h : j < n
  · simp only [catF, if_pos h, Nat.not_lt_zero, if_false, Nat.sub_zero, hg j h]
  · simp only [catF, if_neg h, show j - n = 0 by omega]; rfl
end Go.Vg
namespace Go.Vg
open Go.Pl
theorem shp {x : List SV} {s : Sg} (h : x = segc s) : x.length = 3 ∧ plainL x = true := by subst h; exact ⟨rfl, rfl⟩
end Go.Vg
namespace Go.Vg
open Go.RowKit
theorem xguard_yes {P : Program} {te : TE} {wr : Bool} {nt : Nat} {pt : PT} {st : St} {K : Sl St} {d : Tmp} {want : Bool} {o : Oper} (h : look st.env d = .b want) : xguard true P te wr nt pt (some d) want st o K = XOs P te wr nt pt false true st o K := by
  rw [xguard_t, h, guardC_b]
  cases want <;> simp
end Go.Vg
namespace Go.Vg
open Go.Pl
def drBytes (cd : Bs) : Nat → List UInt8 → (Nat × Int) → List UInt8 × Nat × Int
  | 0, l, d => (l, d)
  | k + 1, l, d => drBytes cd k (l ++ [UInt8.ofNat (drByte cd d).1.toNat]) (drByte cd d).2
theorem drBytes_len {cd : Bs} : ∀ (k : Nat) (l : List UInt8) (d : Nat × Int), (drBytes cd k l d).1.length = l.length + k
  | 0, l, d => rfl
  | k + 1, l, d => by simp only [drBytes]; rw [drBytes_len k]; simp; omega
end Go.Vg
namespace Go.Vg
open Go.Pl
def drMake (cd : Bs) : List UInt8 × Nat × Int := drBytes cd (drBelow cd 41 (drNew cd)).1.toNat [] (drBelow cd 41 (drNew cd)).2
theorem drMake_len {cd : Bs} : (drMake cd).1.length ≤ 40 := by
  unfold drMake
  rw [drBytes_len]
  have := drBelow_range cd (n := 41) (drNew cd) (by omega)
  simp only [List.length_nil]
  omega
end Go.Vg
