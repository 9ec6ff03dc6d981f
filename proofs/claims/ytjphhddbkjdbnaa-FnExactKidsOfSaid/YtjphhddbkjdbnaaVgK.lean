/- Own text: part VgK. -/
import Derived.Test.YtjphhddbkjdbnaaVgJ
namespace Go.Vg
set_option linter.unusedVariables false
set_option linter.unusedSimpArgs false
open Go.RowKit

theorem alloc_sound {P : Program} {te : TE} (hte : teOk P te) {A : Amb} {σ : Asg} {st : St} {a : Act} {w : World} (hR : Rel A σ st a w) {t : TypeId} {ti : TI} (hti : te t = some ti) :
    ∃ v σ' w', (Instr.alloc t true (.tuple #[])).run P w = .ok v w' ∧ leA σ σ' ∧ rel σ' (.ptr st.ctx.length 0 0) v ∧ Rel A σ' (st.addObj (.blk false ti.zero)) a w' := by
  obtain ⟨i, hi, _, _, z, hz, hrz, _⟩ := (hte t ti hti).info
  obtain ⟨σ', w', h1, h2, h3, h4⟩ := box_core (P := P) hR (t := t) (relL_mono (leA.nil σ) hrz)
  refine ⟨_, σ', w', ?_, h2, h3, h4⟩
  simp [Instr.alloc, zeroValue, run_info hi, hz, h1]

theorem box_sound {P : Program} {A : Amb} {σ : Asg} {st : St} {a : Act} {w : World} (hR : Rel A σ st a w) {t : TypeId} {x : SV} {v : Value} (hok : okCell x = true) (hv : rel σ x v) :
    ∃ u σ' w', (Instr.box t v).run P w = .ok u w' ∧ leA σ σ' ∧ rel σ' (.ptr st.ctx.length 0 0) u ∧ Rel A σ' (st.addObj (.blk false (cellsOf x))) a w' := by
  obtain ⟨σ', w', h1, h2, h3, h4⟩ := box_core (P := P) hR (t := t) (cellsOf_rel hok hv)
  refine ⟨_, σ', w', ?_, h2, h3, h4⟩
  simp [Instr.box, h1]

theorem makeMap_sound {P : Program} {A : Amb} {σ : Asg} {st : St} {a : Act} {w : World} (hR : Rel A σ st a w) (o : SO) (hm : o.isMap = true) (he : o.ents = []) (hro : o.ro = false) :
    ∃ σ', leA σ σ' ∧ rel σ' (.mp st.ctx.length) (.map (some w.heap.size)) ∧ Rel A σ' (st.addObj o) a { w with heap := w.heap.push (.map #[] 0) } := by
  have hq : σ st.ctx.length = none := hR.sat.beyond _ (Nat.le_refl _)
  obtain ⟨h1, h2⟩ := hR.alloc (.map #[] 0) o ⟨w.heap.size, 0, 0, 0⟩ rfl (by
    unfold objSat
    rw [hm]
    exact ⟨⟨w.heap.size, 0, 0, 0⟩, #[], 0, by simp [updA], by simp, by simp [he, entsRel]⟩)
  exact ⟨_, h1, by simp only [rel]; exact ⟨⟨w.heap.size, 0, 0, 0⟩, by simp [updA], rfl⟩, h2⟩

theorem update_sound {P : Program} {te : TE} (hte : teOk P te) {A : Amb} {σ : Asg} {st : St} {a : Act} {w : World} (hR : Rel A σ st a w) {α : Type} [DecidableEq α] (kk : KeyK α) {t kt vt : TypeId} (ht : tdOf te t = .map kt vt) (hkt : P.underlying kt = some kk.d)
    {h : Nat} {o o' : SO} {l : List (α × Int)} {k : α} {x : Int} (ho : st.ctx.at h = some o) (hm : o.isMap = true) (hm' : o'.isMap = true) (hr : o.ro = false) (hr' : o'.ro = false)
    (he : o.ents = l.map fun p => (kk.s p.1, .i .i64 p.2)) (he' : o'.ents = (updS l k x).map fun p => (kk.s p.1, .i .i64 p.2)) {v : Value} (hv : rel σ (.mp h) v) :
    ∃ w', (Instr.mapUpdate t v (kk.v k) (.int .i64 x)).run P w = .ok () w' ∧ Rel A σ (st.setObj h (some o')) a w' := by
  have hobj := hR.sat.obj h o ho
  unfold objSat at hobj
  rw [hm] at hobj
  obtain ⟨L, es, ck, hL, hh, hes⟩ := hobj
  simp only [rel] at hv
  obtain ⟨L', hL', rfl⟩ := hv
  rw [hL] at hL'
  cases hL'
  rw [he] at hes
  have hb := hR.sat.inHeap h L hL
  have key : ∀ (es' : Array MapEntry) (ck' : Nat), entsRel σ o'.ents es'.toList → Rel A σ (st.setObj h (some o')) a { w with heap := w.heap.setIfInBounds L.b (.map es' ck') } := by
    intro es' ck' hr2
    refine hR.write ho hr hr' hL _ ?_
    unfold objSat
    rw [hm']
    exact ⟨L, es', ck', hL, by simp only [heap_setB, if_true, if_pos hb], hr2⟩
  unfold Instr.mapUpdate
  simp only [Sem.run_bind, run_und (und_map hte ht), Result.andThen_ok, Go.MapKept.run_getObj_map hh]
  rw [show (10000 : Nat) = 9999 + 1 from rfl, Go.MapKept.run_checkKey hkt (kk.isKey k)]
  simp only [Result.andThen_ok]
  rcases find_ents kk σ k x l es.toList 0 hes with ⟨g1, g2, g3⟩ | ⟨j, e, y, g1, g2, g3, g4, g5⟩
  · rw [Go.MapKept.run_findKey hkt g2]
    simp only [Result.andThen_ok]
    rw [Go.MapKept.run_setObj_map _ hh]
    refine ⟨_, rfl, key _ _ ?_⟩
    rw [he', g3, List.map_append, Array.toList_push]
    refine entsRel_app hes ?_
    simp only [List.map_cons, List.map_nil, entsRel]
    exact ⟨_, _, rfl, by rw [kk.rel_iff], by simp [rel], rfl⟩
  · rw [Go.MapKept.run_findKey hkt g2]
    simp only [Result.andThen_ok, Sem.run_bind]
    have hge : es[0 + j]? = some e := by simpa using g3
    have hkey : (Instr.keyThatStays (((es[0 + j]?).map (·.key)).getD (kk.v k)) (kk.v k)).run P w = .ok (kk.v k) w := by
      simp only [hge, Option.map_some, Option.getD_some, g4, Instr.keyThatStays, kk.stays, if_true, Sem.run_pure]
    rw [hkey]
    simp only [Result.andThen_ok]
    rw [Go.MapKept.run_setObj_map _ hh]
    refine ⟨_, rfl, key _ _ ?_⟩
    rw [he']
    simpa [Array.toList_modify] using g5

theorem repl_length (z : List SV) : ∀ n, (repl z n).length = n * z.length
  | 0 => by simp [repl]
  | n + 1 => by simp [repl, repl_length z n, Nat.succ_mul]; omega

/-- Cells that are the zero value, again and again. -/
theorem repl_rel {σ : Asg} {z : List SV} {zv : Array Value} (h : relL σ z zv.toList) : ∀ n, relL σ (repl z n) ((Array.range (n * zv.size)).map fun i => zv[i % zv.size]!).toList
  | 0 => by simp [repl, relL]
  | n + 1 => by
    have hl := relL_length h
    simp only [Array.length_toList] at hl
    have ih := repl_rel h n
    refine relL_of_get (by rw [repl_length]; simp [hl]) fun j x v hx hv => ?_
    simp only [repl] at hx
    have hv' : zv[j % zv.size]! = v := by
      have := hv
      simp only [Array.toList_map, List.getElem?_map, Option.map_eq_some_iff, Array.toList_range] at this
      obtain ⟨i, hi, rfl⟩ := this
      have : i = j := by
        rw [List.getElem?_range] at hi
        · simpa using hi.symm
        · rcases Nat.lt_or_ge j ((n + 1) * zv.size) with h1 | h1
          · exact h1
          · rw [List.getElem?_eq_none (by simpa using h1)] at hi; cases hi
      rw [this]
    by_cases hj : j < z.length
    · rw [List.getElem?_append_left hj] at hx
      obtain ⟨u, h1, h2⟩ := relL_get h hx
      have : zv[j % zv.size]! = u := by
        rw [Nat.mod_eq_of_lt (by omega)]
        have h3 : zv[j]? = some u := by simpa using h1
        simp [getElem!_def, h3]
      rw [← hv', this]; exact h2
    · rw [List.getElem?_append_right (by omega)] at hx
      obtain ⟨u, h1, h2⟩ := relL_get ih hx
      have hjl : j - z.length < n * zv.size := by
        rcases Nat.lt_or_ge (j - z.length) (n * zv.size) with h3 | h3
        · exact h3
        · rw [List.getElem?_eq_none (by rw [repl_length, hl]; omega)] at hx; cases hx
      have : zv[j % zv.size]! = u := by
        simp only [Array.toList_map, List.getElem?_map, Option.map_eq_some_iff, Array.toList_range] at h1
        obtain ⟨i, hi, rfl⟩ := h1
        rw [List.getElem?_range hjl] at hi
        cases hi
        rw [hl, show j = (j - zv.size) + zv.size by omega, Nat.add_mod_right, Nat.add_sub_cancel]
      rw [← hv', this]; exact h2

theorem fillP_sound {σ : Asg} (sz : Nat) : ∀ (ps : List (Nat × SV)) (vs : List (Nat × Value)) (cs : List SV) (cv : Array Value) (l : List SV), ps.length = vs.length →
      (∀ (j : Nat) (i : Nat) (x : SV), ps[j]? = some (i, x) → ∃ v, vs[j]? = some (i, v) ∧ okCell x = true ∧ rel σ x v) → relL σ cs cv.toList → fillP sz cs ps = some l →
      ∃ out, Instr.fill (fun i => some (i * sz, sz)) cv vs = some out ∧ relL σ l out.toList ∧ out.size = cv.size
  | [], [], cs, cv, l, _, _, hr, h => by
    simp only [fillP, Option.some.injEq] at h
    subst h
    exact ⟨cv, rfl, hr, rfl⟩
  | (i, x) :: ps, (i', v) :: vs, cs, cv, l, hlen, hv, hr, h => by
    obtain ⟨v', e1, hok, hrx⟩ := hv 0 i x rfl
    simp only [List.getElem?_cons_zero, Option.some.injEq, Prod.mk.injEq] at e1
    obtain ⟨rfl, rfl⟩ := e1
    simp only [fillP] at h
    split at h
    · rename_i hc
      obtain ⟨hc1, hc2⟩ := hc
      have hrc := cellsOf_rel hok hrx
      have hl1 := relL_length hrc
      have hl2 := relL_length hr
      simp only [Array.length_toList] at hl1 hl2
      have hfold := foldl_set cv (i' * sz) v.cells.toList (by simp; omega) 0
      simp only [Array.length_toList, Nat.add_zero] at hfold
      rcases hfold with hfold | hfold
      · have hrel : relL σ (cs.take (i' * sz) ++ (cellsOf x ++ cs.drop (i' * sz + sz))) (v.cells.toList.zipIdx.foldl (fun cs (p : Value × Nat) => cs.setIfInBounds (i' * sz + p.2) p.1) cv).toList := by
          rw [hfold]
          refine relL_append (relL_take _ hr) (relL_append hrc ?_)
          have := relL_drop (i' * sz + sz) hr
          rw [show i' * sz + v.cells.size = i' * sz + sz by omega]
          exact this
        obtain ⟨out, ho, hro, hsz⟩ := fillP_sound sz ps vs _ _ l (by simpa using hlen) (fun j i x hj => hv (j + 1) i x (by simpa using hj)) hrel h
        refine ⟨out, ?_, hro, ?_⟩
        · simp only [Instr.fill]
          have hcond : ¬ (v.cells.size ≠ sz ∨ i' * sz + v.cells.size > cv.size) := by omega
          rw [if_neg (by simpa using hcond)]
          have hz : v.cells.zipIdx.foldl (fun cs (p : Value × Nat) => cs.setIfInBounds (i' * sz + p.2) p.1) cv = v.cells.toList.zipIdx.foldl (fun cs (p : Value × Nat) => cs.setIfInBounds (i' * sz + p.2) p.1) cv := by
            rw [← Array.foldl_toList]; simp
          have := ho
          rw [← hz] at this
          exact this
        · rw [hsz]
          have h9 := congrArg List.length hfold
          simp only [Array.length_toList, List.length_append, List.length_take, List.length_drop] at h9
          omega
      · omega
    · cases h
  | [], _ :: _, _, _, _, h, _, _, _ => by simp at h
  | _ :: _, [], _, _, _, h, _, _, _ => by simp at h
end Go.Vg
