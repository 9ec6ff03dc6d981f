/- Own text: part VgO. -/
import Derived.Test.YtjphhddbkjdbnaaVgN
namespace Go.Vg
set_option linter.unusedVariables false
set_option linter.unusedSimpArgs false
open Go.RowKit

/-- A row's block marked behind its end: no cell is touched. -/
theorem mark_sound {P : Program} {te : TE} (hte : teOk P te) {A : Amb} {σ : Asg} {st : St} {a : Act} {w : World} (hR : Rel A σ st a w) {t e : TypeId} (ht : tdOf te t = .slice e) (hu : isU8T te e = true) {h lo len sz n : Nat} {f : Nat → List SV}
    (hob : st.ctx.at h = some (.row false sz n f)) (hlen : 0 < len) {v : Value} (hv : rel σ (.slc h lo len) v) :
    ∃ w', (convert t t v).run P w = .ok v w' ∧ Rel A σ st a w' := by
  simp only [rel] at hv
  obtain ⟨ad, cap, rfl, hl, hv⟩ := hv
  rcases hv with hv | ⟨L, hL, rfl, hav⟩
  · omega
  rcases live_cells hR.sat hob rfl with ⟨_, h0⟩ | ⟨L', c, e', fr, hL', hc⟩
  · rw [h0] at hL; cases hL
  rw [hL'] at hL
  cases hL
  have hb := hR.sat.inHeap h L hL'
  have hshape : w.shape? L.b = some (e', c.size) := by simp [World.shape?, hc.heap]
  have hfz : w.freeze ⟨L.b, c.size, none⟩ 1 = { w with heap := w.heap.setIfInBounds L.b (.cells c e' (if fr.1 == fr.2 then (c.size, c.size + 1) else (min fr.1 c.size, max fr.2 (c.size + 1)))) } := by
    simp only [World.freeze, Nat.succ_ne_zero, if_false]
    congr 1
    apply Array.ext_getElem?
    intro j
    rw [Array.getElem?_modify, heap_setB]
    by_cases hj : L.b = j
    · subst hj
      rw [if_pos rfl, if_pos rfl, if_pos hb, hc.heap]
      obtain ⟨f1, f2⟩ := fr
      simp
    · rw [if_neg hj, if_neg (Ne.symm hj)]
  refine ⟨{ w with heap := w.heap.setIfInBounds L.b (.cells c e' (if fr.1 == fr.2 then (c.size, c.size + 1) else (min fr.1 c.size, max fr.2 (c.size + 1)))) }, ?_, ?_⟩
  · have h1 : P.underlying e = some (.int .u8) := und_int hte (isU8T_sp hu)
    simp only [convert, Sem.run_bind, run_und (und_slice hte ht), Result.andThen_ok, beq_self_eq_true, run_und h1, markStringish, run_shape, addrOf, hshape, run_freeze, hfz, Sem.run_pure]
  · have hset : (st.setObj h (some (.row false sz n f))) = st := by
      unfold St.setObj
      have hlt := at_lt hob
      have : st.ctx.set h (some (.row false sz n f)) = st.ctx := by
        have h1 : st.ctx[h]? = some (some (.row false sz n f)) := by
          unfold Ctx.at at hob
          rw [List.getD_eq_getElem?_getD, List.getElem?_eq_getElem hlt] at hob
          rw [List.getElem?_eq_getElem hlt]
          simpa using hob
        apply List.ext_getElem?
        intro j
        rw [List.getElem?_set]
        split
        · rename_i hj; subst hj; rw [h1]
        · rfl
      rw [this]
    have := hR.write (o' := .row false sz n f) hob rfl rfl hL' (.cells c e' (if fr.1 == fr.2 then (c.size, c.size + 1) else (min fr.1 c.size, max fr.2 (c.size + 1)))) (by
      unfold objSat
      refine .inr ⟨L, c, e', (if fr.1 == fr.2 then (c.size, c.size + 1) else (min fr.1 c.size, max fr.2 (c.size + 1))), hL', ⟨by simp only [heap_setB, if_true, if_pos hb], hc.lsz, hc.room, hc.fits, hc.cell, fun _ => ?_⟩⟩
      right
      rcases hc.free rfl with h1 | h1
      · simp [h1]
      · split
        · exact Nat.le_refl _
        · simp; omega)
    rw [hset] at this
    exact this

theorem run_unit {P : Program} {s : Sem Unit} {w w' : World} (h : s.run P w = .ok () w') : ((do s; pure .skip) : Sem Next).run P w = .ok .skip w' := by simp [h]

theorem xappend_sound {P : Program} {te : TE} (hte : teOk P te) {A : Amb} {σ : Asg} {st : St} {a : Act} {w : World} (hR : Rel A σ st a w) {t xt : TypeId} (hxt : match tdOf te xt with | .slice _ => True | .str => True | _ => False)
    {s x : SV} {vs vx : Value} (hs : rel σ s vs) (hx : rel σ x vx) {K : SV → St → Prop} (ty : TypeId) (h : xappend te st t s x K) :
    ∃ z st' v σ' w', K z st' ∧ (Builtin.append_ #[t, xt] ty #[vs, vx]).run P w = .ok v w' ∧ leA σ σ' ∧ rel σ' z v ∧ Rel A σ' st' a w' := by
  unfold xappend at h
  split at h
  · rename_i e ht
    split at h
    · rename_i ti hti
      obtain ⟨hz, hb, h⟩ := h
      split at h
      · obtain ⟨m, g, h, hsrc⟩ := xsrc_sound (P := P) hR hx h
        obtain ⟨hroom, h⟩ := h.out
        simp only [rel] at hs
        subst hs
        obtain ⟨v, σ', w', h1, h2, h3, h4⟩ := append_nil hte hR ht hti hxt hz hb hsrc ty hroom
        exact ⟨_, _, v, σ', w', h, h1, h2, h3, h4⟩
      · rename_i hh lo len
        split at h
        · rename_i sz' n f hob
          obtain ⟨rfl, h⟩ := h
          obtain ⟨m, g, h, hsrc⟩ := xsrc_sound (P := P) hR hx h
          obtain ⟨⟨hin, hroom⟩, h⟩ := h.out
          obtain ⟨v, σ', w', h1, h2, h3, h4⟩ := append_row hte hR ht hti hxt hz hb hob hin hs hsrc ty hroom
          exact ⟨_, _, v, σ', w', h, h1, h2, h3, h4⟩
        · exact h.elim
      · exact h.elim
    · exact h.elim
  · exact h.elim

theorem xmem_sound {P : Program} {te : TE} (hte : teOk P te) {A : Amb} {σ : Asg} {st : St} {a : Act} {w : World} (hR : Rel A σ st a w) {o : Oper} {K : SV → St → Prop}
    (h : xmem te st o.op K) : OutM P A σ a w (execOp a.eval o) K := by
  obtain ⟨dst, op, ty, pos, after, guard⟩ := o
  simp only at h ⊢
  unfold xmem at h
  split at h
  case h_1 t =>
    split at h
    · rename_i ti hti
      obtain ⟨v, σ', w', h1, h2, h3, h4⟩ := alloc_sound hte hR hti
      exact ⟨_, _, v, σ', w', h, .inl (lift_val h1), h2, h3, h4⟩
    · exact h.elim
  case h_2 t x =>
    obtain ⟨hok, h⟩ := h
    obtain ⟨v, σ', w', h1, h2, h3, h4⟩ := box_sound (P := P) hR (t := t) hok (hR.ev x)
    exact ⟨_, _, v, σ', w', h, .inl (lift_val h1), h2, h3, h4⟩
  case h_3 t x y =>
    split at h
    · rename_i hh i k hx
      split at h
      · rename_i ob ti hob hti
        obtain ⟨hm, hro, hok, hlen, hall, hel, hk, h⟩ := h
        obtain ⟨hi, h⟩ := h.out
        obtain ⟨w', h1, h2⟩ := store_sound hte hR hti hob hm hro hi hok hlen hall hel hk (by have := hR.ev x; rw [hx] at this; exact this) (hR.ev y)
        exact ⟨_, _, undef, σ, w', h, .inr ⟨run_unit h1, rfl⟩, leA.refl σ, by simp [rel], h2⟩
      · exact h.elim
    · exact h.elim
  case h_4 t r =>
    obtain ⟨hr, h⟩ := h
    have hrun : ∀ kt vt, tdOf te t = .map kt vt → (Instr.makeMap t (r.map a.eval)).run P w = .ok (.map (some w.heap.size)) { w with heap := w.heap.push (.map #[] 0) } := by
      intro kt vt ht
      cases r with
      | none => simp [Instr.makeMap]
      | some x =>
        simp only at hr
        split at hr
        · rename_i k n hx
          have := hR.ev x
          rw [hx] at this
          simp only [rel] at this
          simp [Instr.makeMap, run_und (und_map hte ht), this, asInt, asIntOf]
        · exact hr.elim
    split at h
    · rename_i kt vt ht
      split at h
      · obtain ⟨σ', h1, h2, h3⟩ := makeMap_sound (P := P) hR (.mapS []) rfl rfl rfl
        exact ⟨_, _, _, σ', _, h, .inl (lift_val (hrun kt vt ht)), h1, h2, h3⟩
      · obtain ⟨σ', h1, h2, h3⟩ := makeMap_sound (P := P) hR (.mapI []) rfl rfl rfl
        exact ⟨_, _, _, σ', _, h, .inl (lift_val (hrun kt vt ht)), h1, h2, h3⟩
      · exact h.elim
    · exact h.elim
  case h_5 t m k x =>
    split at h
    · rename_i hh s v kt vt hm hk hx ht
      split at h
      · rename_i l hob
        obtain ⟨hkt, h⟩ := h
        have e1 := hR.ev m
        have e2 := hR.ev k
        have e3 := hR.ev x
        rw [hm] at e1
        rw [hk] at e2
        rw [hx] at e3
        simp only [rel] at e2 e3
        obtain ⟨w', h1, h2⟩ := update_sound hte hR keyS ht (und_str hte hkt) (o' := .mapS (updS l s v)) (x := v) hob rfl rfl rfl rfl rfl rfl e1
        refine ⟨_, _, undef, σ, w', h, .inr ⟨run_unit ?_, rfl⟩, leA.refl σ, by simp [rel], h2⟩
        rw [e2, e3]; exact h1
      · exact h.elim
    · rename_i hh s v kt vt hm hk hx ht
      split at h
      · rename_i l hob
        obtain ⟨hkt, h⟩ := h
        have e1 := hR.ev m
        have e2 := hR.ev k
        have e3 := hR.ev x
        rw [hm] at e1
        rw [hk] at e2
        rw [hx] at e3
        simp only [rel] at e2 e3
        obtain ⟨w', h1, h2⟩ := update_sound hte hR keyI ht (und_int hte hkt) (o' := .mapI (updS l s v)) (x := v) hob rfl rfl rfl rfl rfl rfl e1
        refine ⟨_, _, undef, σ, w', h, .inr ⟨run_unit ?_, rfl⟩, leA.refl σ, by simp [rel], h2⟩
        rw [e2, e3]; exact h1
      · exact h.elim
    · exact h.elim
  case h_6 t m k x =>
    split at h
    · rename_i hh s v kt vt hm hk hx ht
      split at h
      · rename_i l hob
        obtain ⟨hkt, h⟩ := h
        have e1 := hR.ev m
        have e2 := hR.ev k
        have e3 := hR.ev x
        rw [hm] at e1
        rw [hk] at e2
        rw [hx] at e3
        simp only [rel] at e2 e3
        obtain ⟨w', h1, h2⟩ := update_sound hte hR keyS ht (und_str hte hkt) (o' := .mapS (updS l s v)) (x := v) hob rfl rfl rfl rfl rfl rfl e1
        refine ⟨_, _, undef, σ, w', h, .inr ⟨run_unit ?_, rfl⟩, leA.refl σ, by simp [rel], h2⟩
        rw [e2, e3]; exact h1
      · exact h.elim
    · rename_i hh s v kt vt hm hk hx ht
      split at h
      · rename_i l hob
        obtain ⟨hkt, h⟩ := h
        have e1 := hR.ev m
        have e2 := hR.ev k
        have e3 := hR.ev x
        rw [hm] at e1
        rw [hk] at e2
        rw [hx] at e3
        simp only [rel] at e2 e3
        obtain ⟨w', h1, h2⟩ := update_sound hte hR keyI ht (und_int hte hkt) (o' := .mapI (updS l s v)) (x := v) hob rfl rfl rfl rfl rfl rfl e1
        refine ⟨_, _, undef, σ, w', h, .inr ⟨run_unit ?_, rfl⟩, leA.refl σ, by simp [rel], h2⟩
        rw [e2, e3]; exact h1
      · exact h.elim
    · exact h.elim
  case h_7 t len parts =>
    split at h
    · rename_i e ht
      split at h
      · rename_i ti hti
        obtain ⟨hz, hlen, hall, h⟩ := h
        split at h
        · rename_i l hf
          obtain ⟨v, σ', w', h1, h2, h3, h4⟩ := buildSlice_sound hte hR ht hti hz hlen (ps := parts.toList.map fun p => (p.1, st.ev p.2)) (vs := parts.map fun p => (p.1, a.eval p.2)) (by simp) (by
            intro j i x hj
            simp only [List.getElem?_map, Option.map_eq_some_iff, Prod.mk.injEq] at hj
            obtain ⟨p, hp, rfl, rfl⟩ := hj
            refine ⟨a.eval p.2, ?_, List.all_eq_true.1 hall p (List.mem_of_getElem? hp), hR.ev p.2⟩
            simp [hp]) hf
          exact ⟨_, _, v, σ', w', h, .inl (lift_val h1), h2, h3, h4⟩
        · exact h.elim
      · exact h.elim
    · exact h.elim
  case h_8 t l c =>
    split at h
    · rename_i e n m ht hl hc
      split at h
      · rename_i ti hti
        obtain ⟨hz, h⟩ := h
        obtain ⟨⟨b0, b1, b2, b3⟩, h⟩ := h.out
        obtain ⟨v, σ', w', h1, h2, h3, h4⟩ := makeSlice_sound hte hR ht hti hz b0 b1 b2 b3
        refine ⟨_, _, v, σ', w', h, .inl (lift_val ?_), h2, h3, h4⟩
        have e1 := hR.ev l
        have e2 := hR.ev c
        rw [hl] at e1
        rw [hc] at e2
        simp only [rel] at e1 e2
        rw [e1, e2]; exact h1
      · exact h.elim
    · exact h.elim
  case h_9 s d x =>
    obtain ⟨rfl, h⟩ := h
    split at h
    · rename_i hh lo len e hx ht
      obtain ⟨hu, hlen, hrow, h⟩ := h
      split at hrow
      · rename_i sz n f hob
        have e1 := hR.ev x
        rw [hx] at e1
        obtain ⟨w', h1, h2⟩ := mark_sound hte hR ht hu hob hlen e1
        exact ⟨_, _, _, σ, w', h, .inl (lift_val h1), leA.refl σ, e1, h2⟩
      · exact hrow.elim
    · exact h.elim
  case h_10 args ts =>
    split at h
    · rename_i s x t xt ha hts
      obtain ⟨hxt, h⟩ := h
      have ha' : args = #[s, x] := by rw [← Array.toList_inj]; simpa using ha
      have hts' : ts = #[t, xt] := by rw [← Array.toList_inj]; simpa using hts
      subst ha' hts'
      obtain ⟨z, st', v, σ', w', hK, h1, h2, h3, h4⟩ := xappend_sound hte hR hxt (hR.ev s) (hR.ev x) ty h
      refine ⟨z, st', v, σ', w', hK, .inl ?_, h2, h3, h4⟩
      simp [execOp, resolve, invoke, builtin, h1]
    · exact h.elim
  case h_11 => exact h.elim
end Go.Vg
