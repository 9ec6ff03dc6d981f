/- A list of bytes that is made of a constant text. -/
import Derived.Test.YtjphhddbkjdbnaaBaseE
import Derived.Test.YtjphhddbkjdbnaaPlB
namespace Go.Vg
set_option linter.unusedVariables false
set_option maxRecDepth 100000
def cvO (te : TE) (st : St) (s : TypeId) (x : Operand) (K : SV → Prop) : Prop := match st.ev x, tdOf te s with
    | .slc h lo len, .slice e => isU8T te e = true ∧ 0 < len ∧ (match st.ctx.at h with
      | some (.row false _ _ _) => True
      | _ => False) ∧ K (.slc h lo len)
    | _, _ => False
theorem cvO_of {te : TE} {st : St} {h lo len : Nat} {e : TypeId} {s : TypeId} {x : Operand} {sz n : Nat} {f : Nat → List SV} {K : SV → Prop} (hx : st.ev x = .slc h lo len) (ht : tdOf te s = .slice e) (hc : st.ctx.at h = some (.row false sz n f)) (h1 : isU8T te e = true) (h2 : 0 < len) (hK : K (.slc h lo len)) : cvO te st s x K := by
  unfold cvO; rw [hx, ht]; simp only [hc]; exact ⟨h1, h2, trivial, hK⟩
theorem xmem_conv {te : TE} {st : St} {s : TypeId} {x : Operand} {k : SV → St → Prop} : xmem te st (.convert s s x) k = cvO te st s x (fun z => k z st) := by
  simp only [xmem, cvO, true_and]
  cases st.ev x <;> cases tdOf te s <;> rfl
theorem putS_s {nt : Nat} {st : St} {dst : Option Tmp} {z : SV} {k : St → Prop} : putS nt st dst z k = putSs nt st dst z ⟨k, ⟨⟩⟩ := id rfl
theorem litEl_bytes {l : List SV} {b : List UInt8} (h : l = b.map fun x => SV.i .u8 x.toNat) : ∀ j, j < b.length → litEl l 1 j = rowE bytc 0 b j := by
  intro j hj
  subst h
  unfold litEl rowE bytc
  rw [Nat.mul_one]
  simp [List.getD, hj]
  rw [List.drop_eq_getElem_cons (by simpa using hj)]
  simp
theorem isU8_ints (l : List Int) : ∀ j, j < l.length → isU8 ((litEl (l.map (SV.i .u8)) 1 j).getD 0 .u) = true := by
  intro j hj
  unfold litEl
  rw [Nat.mul_one, List.drop_eq_getElem_cons (by simpa using hj)]
  simp [isU8]
theorem rowBytes_ints (l : List Int) : rowBytes (litEl (l.map (SV.i .u8)) 1) 0 l.length = l.map fun x => UInt8.ofNat x.toNat := by
  apply List.ext_getElem (by simp [rowBytes])
  intro j h1 h2
  have hj : j < l.length := by simpa using h2
  unfold rowBytes litEl
  simp only [List.getElem_map, List.getElem_range, Nat.zero_add, Nat.mul_one]
  rw [List.drop_eq_getElem_cons (by simpa using hj)]
  simp
open Go.Pl in
theorem encode_rn {r : Int} (h : ¬ (r < 0 ∨ 1114111 < r ∨ (55296 ≤ r ∧ r ≤ 57343))) : (Utf8.encode r).data.toList = rnB r := by
  have hv : Utf8.valid r = true := by simp [Utf8.valid]; omega
  obtain ⟨n, rfl⟩ : ∃ n : Nat, r = n := ⟨r.toNat, by omega⟩
  unfold rnB Utf8.encode
  rw [if_neg h, hv]
  simp only [if_true, Int.toNat_natCast]
  by_cases h1 : n < 128
  · rw [if_pos h1, if_pos (show (n : Int) < 128 by omega)]
  rw [if_neg h1, if_neg (show ¬ (n : Int) < 128 by omega)]
  by_cases h2 : n < 2048
  · rw [if_pos h2, if_pos (show (n : Int) < 2048 by omega)]
  rw [if_neg h2, if_neg (show ¬ (n : Int) < 2048 by omega)]
  by_cases h3 : n < 65536
  · rw [if_pos h3, if_pos (show (n : Int) < 65536 by omega)]
  rw [if_neg h3, if_neg (show ¬ (n : Int) < 65536 by omega)]
theorem litEl_i64 {l : List SV} {b : List Int} (h : l = b.map (SV.i .i64)) {j : Nat} (hj : j < b.length) : litEl l 1 j = [.i .i64 (b.getD j 0)] := by
  subst h
  unfold litEl
  rw [Nat.mul_one]
  simp [List.getD, hj]
  rw [List.drop_eq_getElem_cons (by simpa using hj)]
  simp
end Go.Vg
