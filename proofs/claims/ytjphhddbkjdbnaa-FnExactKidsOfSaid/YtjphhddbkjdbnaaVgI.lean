/- Own text: part VgI. -/
import Derived.Test.YtjphhddbkjdbnaaVgH
namespace Go.Vg
set_option linter.unusedVariables false
set_option linter.unusedSimpArgs false
open Go.RowKit

theorem xload_sound {P : Program} {te : TE} (hte : teOk P te) {A : Amb} {σ : Asg} {st : St} {a : Act} {w : World} (hR : Rel A σ st a w) {c : Bool} {o : Oper} {K : SV → Prop}
    (h : xload te c st o.op K) : OutL P σ w c (opHandle st o.op) (execOp a.eval o) K := by
  obtain ⟨dst, op, ty, pos, after, guard⟩ := o
  simp only at h ⊢
  unfold xload at h
  split at h
  case h_1 t x =>
    obtain ⟨y, h, hr, hh⟩ := ung_handle (hR.ev x) h
    split at h
    · rename_i hd i k
      have hh' : hd ∈ handleOf (st.ev x) := by rw [hh trivial]; exact List.mem_singleton.2 rfl
      split at h
      · rename_i ob ti hob hti
        obtain ⟨hm, ho, h⟩ := h
        by_cases hs : ti.td.isStruct = true
        · rw [if_pos hs] at h
          obtain ⟨hk1, hk2, h⟩ := h
          obtain ⟨hi, h⟩ := h.out
          refine ⟨_, h, fun hc => ?_⟩
          obtain ⟨u, h1, h2⟩ := load_sound hte hR hti ho hob hm (hi hc) (hr hc) (by rw [if_pos hs]; exact ⟨hk1, hk2⟩)
          rw [if_pos hs] at h1
          refine ⟨u, h1, fun w' hw hw2 => lift_val (h2 w' fun L hL => hw hd hh' L hL)⟩
        · rw [if_neg hs] at h
          obtain ⟨hk1, h⟩ := h
          obtain ⟨hi, h⟩ := h.out
          refine ⟨_, h, fun hc => ?_⟩
          obtain ⟨u, h1, h2⟩ := load_sound hte hR hti ho hob hm (hi hc) (hr hc) (by rw [if_neg hs]; exact hk1)
          rw [if_neg hs] at h1
          refine ⟨u, h1, fun w' hw hw2 => lift_val (h2 w' fun L hL => hw hd hh' L hL)⟩
      · exact h.elim
    · rename_i l k
      split at h
      · rename_i ti hti
        obtain ⟨ho, h⟩ := h
        by_cases hs : ti.td.isStruct = true
        · rw [if_pos hs] at h
          obtain ⟨hi, h⟩ := h.out
          refine ⟨_, h, fun hc => ?_⟩
          obtain ⟨u, h1, h2⟩ := fload_sound hte hti ho (hr hc) (by rw [if_pos hs]; exact hi hc)
          rw [if_pos hs] at h1
          exact ⟨u, h1, fun w' _ hw => lift_val (h2 w' hw)⟩
        · rw [if_neg hs] at h
          obtain ⟨hi, h⟩ := h.out
          refine ⟨_, h, fun hc => ?_⟩
          obtain ⟨u, h1, h2⟩ := fload_sound hte hti ho (hr hc) (by rw [if_neg hs]; exact hi hc)
          rw [if_neg hs] at h1
          exact ⟨u, h1, fun w' _ hw => lift_val (h2 w' hw)⟩
      · exact h.elim
    · exact h.elim
  case h_2 s d x =>
    obtain ⟨y, h, hr, hh⟩ := ung_handle (hR.ev x) h
    split at h
    · rename_i hd lo len e hs hdd
      have hh' : hd ∈ handleOf (st.ev x) := by rw [hh trivial]; exact List.mem_singleton.2 rfl
      obtain ⟨hu8, h⟩ := h
      split at h
      · rename_i ro sz n f hob
        obtain ⟨rfl, hu, h⟩ := h
        obtain ⟨hn, h⟩ := h.out
        refine ⟨_, h, fun hc => ⟨.string ⟨(rowBytes f lo len).toArray⟩, by simp only [rel], fun w' hw hw2 => lift_val ?_⟩⟩
        refine conv_sound hte hR hs hdd hu8 hob hu (hn hc) (hr hc) w' fun L hL => hw hd hh' L hL
      · exact h.elim
    · rename_i e hs hdd
      obtain ⟨hu8, h⟩ := h
      refine ⟨_, h, fun hc => ⟨.string ⟨#[]⟩, by simp only [rel], fun w' hw hw2 => lift_val ?_⟩⟩
      have h1 := hr hc
      simp only [rel] at h1
      rw [h1, run_convert_bytes_string w' s d e none 0 0 (und_slice hte hs) (und_int hte (isU8T_sp hu8)) (und_str hte hdd)]
      simp [Conv.bytesToString]; rfl
    · rename_i sz l e hs hdd
      obtain ⟨hu8, rfl, h⟩ := h
      obtain ⟨hall, h⟩ := h.out
      refine ⟨_, h, fun hc => ⟨.string ⟨(fsBytes l).toArray⟩, by simp only [rel], fun w' _ hw => lift_val ?_⟩⟩
      exact fconv_sound hte hs hdd hu8 (hall hc) (hr hc) w' hw
    · exact h.elim
  case h_3 t m k ok =>
    obtain ⟨y, h, hr, hh⟩ := ung_handle (hR.ev m) h
    obtain ⟨y2, h, hr2⟩ := ung_sound (hR.ev k) h
    split at h
    · rename_i hd s _
      have hh' : hd ∈ handleOf (st.ev m) := by rw [hh trivial]; exact List.mem_singleton.2 rfl
      split at h
      · rename_i l kt vt hob htd
        obtain ⟨hkt, hvt, h⟩ := h
        have hobj := hR.sat.obj hd _ hob
        simp only [objSat, SO.isMap, SO.ents] at hobj
        obtain ⟨L, es, ck, hL, hh0, he⟩ := hobj
        unfold xlook at h
        split at h
        · rename_i hok
          refine ⟨_, h, fun hc => ⟨.tuple #[.int .i64 ((lookS l s).getD 0), .bool (lookS l s).isSome], by simp [rel, relL], fun w' hw hw2 => lift_val ?_⟩⟩
          have h1 := hr hc
          have h2 := hr2 hc
          simp only [rel] at h1 h2
          obtain ⟨L', hL', hv⟩ := h1
          rw [hL] at hL'; cases hL'
          have := look_sound hte keyS htd (und_str hte hkt) hvt (L := L) ((hw hd hh' L hL).trans hh0) he s ok
          rw [hv, h2]
          rw [if_pos hok] at this
          exact this
        · rename_i hok
          refine ⟨_, h, fun hc => ⟨.int .i64 ((lookS l s).getD 0), by simp [rel], fun w' hw hw2 => lift_val ?_⟩⟩
          have h1 := hr hc
          have h2 := hr2 hc
          simp only [rel] at h1 h2
          obtain ⟨L', hL', hv⟩ := h1
          rw [hL] at hL'; cases hL'
          have := look_sound hte keyS htd (und_str hte hkt) hvt (L := L) ((hw hd hh' L hL).trans hh0) he s ok
          rw [hv, h2]
          rw [if_neg hok] at this
          exact this
      · exact h.elim
    · rename_i hd s _
      have hh' : hd ∈ handleOf (st.ev m) := by rw [hh trivial]; exact List.mem_singleton.2 rfl
      split at h
      · rename_i l kt vt hob htd
        obtain ⟨hkt, hvt, h⟩ := h
        have hobj := hR.sat.obj hd _ hob
        simp only [objSat, SO.isMap, SO.ents] at hobj
        obtain ⟨L, es, ck, hL, hh0, he⟩ := hobj
        unfold xlook at h
        split at h
        · rename_i hok
          refine ⟨_, h, fun hc => ⟨.tuple #[.int .i64 ((lookS l s).getD 0), .bool (lookS l s).isSome], by simp [rel, relL], fun w' hw hw2 => lift_val ?_⟩⟩
          have h1 := hr hc
          have h2 := hr2 hc
          simp only [rel] at h1 h2
          obtain ⟨L', hL', hv⟩ := h1
          rw [hL] at hL'; cases hL'
          have := look_sound hte keyI htd (und_int hte hkt) hvt (L := L) ((hw hd hh' L hL).trans hh0) he s ok
          rw [hv, h2]
          rw [if_pos hok] at this
          exact this
        · rename_i hok
          refine ⟨_, h, fun hc => ⟨.int .i64 ((lookS l s).getD 0), by simp [rel], fun w' hw hw2 => lift_val ?_⟩⟩
          have h1 := hr hc
          have h2 := hr2 hc
          simp only [rel] at h1 h2
          obtain ⟨L', hL', hv⟩ := h1
          rw [hL] at hL'; cases hL'
          have := look_sound hte keyI htd (und_int hte hkt) hvt (L := L) ((hw hd hh' L hL).trans hh0) he s ok
          rw [hv, h2]
          rw [if_neg hok] at this
          exact this
      · exact h.elim
    · exact h.elim
  case h_4 => exact h.elim
end Go.Vg
