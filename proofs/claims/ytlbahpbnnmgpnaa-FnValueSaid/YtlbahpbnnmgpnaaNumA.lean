/- Own text: part NumA. -/
import Derived.Test.YtlbahpbnnmgpnaaIntA
import Derived.Test.YtlbahpbnnmgpnaaPlW
namespace Go.T36
open Go.Pl
set_option linter.unusedVariables false
set_option linter.unusedSimpArgs false
theorem byteAt_get {s : Bs} {i : Nat} (h : i < s.length) : Go.T6.byteAt s i = ((s.getD i 0).toNat : Int) := by
  have : Go.T6.spot s i = i := by unfold Go.T6.spot; grind
  unfold Go.T6.byteAt
  rw [this, if_neg (by omega), Int.toNat_natCast]
theorem digGo_val : ∀ (r pre : Bs) (a : Int), (∀ c ∈ r, isD c) → 0 ≤ a → valD r a ≤ 9007199254740991 → Go.T6.digGo (pre ++ r) 10 r.length pre.length a = some (valD r a)
  | [], pre, a, _, _, _ => rfl
  | c :: r, pre, a, h, ha, hb => by
    have hc := h c (by simp)
    unfold isD at hc
    have hby : Go.T6.byteAt (pre ++ c :: r) pre.length = (c.toNat : Int) := by
      rw [byteAt_get (by simp)]
      simp [List.getD]
    have hx : Go.T6.hex1 (c.toNat : Int) = some ((c.toNat : Int) - 48) := by unfold Go.T6.hex1; rw [if_pos (by omega)]
    have hge := valD_ge r (a * 10 + ((c.toNat : Int) - 48)) (fun x hx => h x (by simp [hx])) (by omega)
    simp only [valD] at hb ⊢
    have hrec := digGo_val r (pre ++ [c]) (a * 10 + ((c.toNat : Int) - 48)) (fun x hx => h x (by simp [hx])) (by omega) hb
    simp only [List.append_assoc, List.singleton_append, List.length_append, List.length_singleton] at hrec
    simp only [List.length_cons, Go.T6.digGo, hby, hx]
    rw [if_neg (by omega), if_neg (by omega)]
    exact hrec
theorem digV_val {r : Bs} (h : ∀ c ∈ r, isD c) (hb : valD r 0 ≤ 9007199254740991) : Go.T6.digV r 10 = some (valD r 0) := by
  have := digGo_val r [] 0 h (by omega) hb
  simpa [Go.T6.digV] using this
theorem isD_ne {c : UInt8} (h : isD c) (k : Nat) (hk : k < 48 ∨ 57 < k) (hk2 : k < 256) : c ≠ UInt8.ofNat k := by
  intro e
  subst e
  unfold isD at h
  rw [UInt8.toNat_ofNat'] at h
  omega
theorem intV_dec {n : Nat} (hn : n ≤ 4294967295) : Go.T6.intV (dec n) = some (n : Int) ∧ Go.T6.intV (45 :: dec n) = some (-(n : Int)) ∧ Go.T6.intV (43 :: 48 :: 48 :: dec n) = some (n : Int) := by
  have hd := dec_D n
  have hv := valD_dec n
  have hne := dec_ne n
  generalize dec n = s at *
  have e1 : Go.T6.digV s 10 = some (n : Int) := by rw [digV_val hd (by omega), hv]
  have e2 : Go.T6.digV (48 :: 48 :: s) 10 = some (n : Int) := by
    rw [digV_val (r := 48 :: 48 :: s) (by intro c hc; simp only [List.mem_cons] at hc; rcases hc with rfl | rfl | hc; exact ⟨by decide, by decide⟩; exact ⟨by decide, by decide⟩; exact hd c hc) (by simp only [valD]; rw [show ((0 : Int) * 10 + (((48 : UInt8).toNat : Int) - 48)) * 10 + (((48 : UInt8).toNat : Int) - 48) = 0 by decide, hv]; omega)]
    simp only [valD]
    rw [show ((0 : Int) * 10 + (((48 : UInt8).toNat : Int) - 48)) * 10 + (((48 : UInt8).toNat : Int) - 48) = 0 by decide, hv]
  rcases s with _ | ⟨c, r⟩
  · exact absurd rfl hne
  have hc := hd c (by simp)
  refine ⟨?_, ?_, ?_⟩
  · unfold Go.T6.intV
    have h2 : ∀ x : UInt8, ¬ isD x → (c :: r).take 2 ≠ [48, x] := by
      intro x hx h
      rcases r with _ | ⟨d, r⟩
      · simp at h
      · simp only [List.take_succ_cons, List.take_zero, List.cons.injEq, and_true] at h
        exact hx (h.2 ▸ hd d (by simp))
    rw [if_neg (fun h => h2 111 (by unfold isD; decide) h.2), if_neg (fun h => h2 120 (by unfold isD; decide) h.2), if_neg, if_neg (by simp), e1]
    rintro ⟨_, h⟩
    simp only [List.getD_cons_zero] at h
    rcases h with h | h
    · exact isD_ne hc 45 (by omega) (by omega) h
    · exact isD_ne hc 43 (by omega) (by omega) h
  · unfold Go.T6.intV
    rw [if_neg (by rintro ⟨_, h⟩; simp at h), if_neg (by rintro ⟨_, h⟩; simp at h), if_pos (by simp)]
    simp only [List.drop_succ_cons, List.drop_zero, e1, List.getD_cons_zero]
    rfl
  · unfold Go.T6.intV
    rw [if_neg (by rintro ⟨_, h⟩; simp at h), if_neg (by rintro ⟨_, h⟩; simp at h), if_pos (by simp)]
    simp only [List.drop_succ_cons, List.drop_zero, e2, List.getD_cons_zero]
    rfl
theorem dec_word {n : Nat} : dec n ∉ nulW ∧ dec n ∉ truW ∧ dec n ∉ falW := by
  have hd := dec_D n
  have hne := dec_ne n
  generalize dec n = s at *
  rcases s with _ | ⟨c, r⟩
  · exact absurd rfl hne
  have hc := hd c (by simp)
  unfold isD at hc
  refine ⟨?_, ?_, ?_⟩
  · intro h
    simp only [nulW, List.mem_cons, List.cons.injEq, List.not_mem_nil, or_false, reduceCtorEq, false_or] at h
    rcases h with h | h | h | h <;> (rw [h.1] at hc; revert hc; decide)
  · intro h
    simp only [truW, List.mem_cons, List.cons.injEq, List.not_mem_nil, or_false] at h
    rcases h with h | h | h <;> (rw [h.1] at hc; revert hc; decide)
  · intro h
    simp only [falW, List.mem_cons, List.cons.injEq, List.not_mem_nil, or_false] at h
    rcases h with h | h | h <;> (rw [h.1] at hc; revert hc; decide)
theorem valV_1 (v : Int × Int × Bool × Bs) (s : Bs) : valV v ⟨5, 1, false, s, [], [], 0, 0⟩ = v := by
  have h : evOk ⟨5, 1, false, s, [], [], 0, 0⟩ = true := by simp [evOk, isNm_nil]
  simp [valV, h]
theorem valV_2 (v : Int × Int × Bool × Bs) (s : Bs) : valV v ⟨5, 2, false, s, [], [], 0, 0⟩ = (4, 0, false, s) := by
  have h : evOk ⟨5, 2, false, s, [], [], 0, 0⟩ = true := by simp [evOk, isNm_nil]
  simp [valV, h]
theorem plV_dec (k : Nat) (n : Int) : plV (some n) (dec k) = (3, n, false, []) := by
  have h := dec_word (n := k)
  unfold plV
  rw [if_neg h.1, if_neg h.2.1, if_neg h.2.2]
end Go.T36
