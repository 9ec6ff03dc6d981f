/- Own text: part VgM. -/
import Derived.Test.YtjphhddbkjdbnaaVgL
namespace Go.Vg
set_option linter.unusedVariables false
set_option linter.unusedSimpArgs false
open Go.RowKit

/-- What an append takes in: 'm' elements of 'sz' cells. -/
structure SrcIs (P : Program) (σ : Asg) (w : World) (sz m : Nat) (g : Nat → List SV) (v : Value) : Prop where
  len : (Builtin.lenOf v).run P w = .ok m w
  vals : ∃ vs : List Value, vs.length = m * sz ∧ (∀ n', (Builtin.firstCells sz m v).run P { w with drawn := n' } = .ok vs.toArray { w with drawn := n' }) ∧
    (∀ x ∈ vs, x.oneCell' = true) ∧ ∀ j k, j < m → k < sz → ∃ y, vs[j * sz + k]? = some y ∧ rel σ ((g j).getD k .u) y

theorem row_vals {σ : Asg} {w : World} {L : Loc} {ro : Bool} {sz n : Nat} {f : Nat → List SV} {c : Array Value} {e : TypeId} {fr : Nat × Nat} (h : cellsAt σ w L (.row ro sz n f) c e fr) (lo : Nat) :
    ∀ (m : Nat), lo + m ≤ n → ∃ vs : List Value, vs.length = m * sz ∧ (∀ (j : Nat) (v : Value), vs[j]? = some v → c[L.sh + lo * L.sz + j]? = some v) ∧
      ∀ j k, j < m → k < sz → ∃ y, vs[j * sz + k]? = some y ∧ rel σ ((f (lo + j)).getD k .u) y := by
  intro m
  induction m with
  | zero => intro _; exact ⟨[], by simp, by simp, fun j k hj => by omega⟩
  | succ m ih =>
    intro hm
    obtain ⟨vs, h1, h2, h3⟩ := ih (by omega)
    obtain ⟨us, g1, g2, g3⟩ := cells_list h (i := lo + m) (k := 0) (n := sz) (by simp only [SO.n]; omega) (by simp [SO.sz])
    refine ⟨vs ++ us, by simp [h1, g1, Nat.succ_mul], fun j v hj => ?_, fun j k hj hk => ?_⟩
    · rw [List.getElem?_append] at hj
      split at hj
      · exact h2 j v hj
      · have := g2 _ v hj
        rw [h1] at this
        rename_i hge
        rw [h1] at hge
        have hsz : L.sz = sz := h.lsz
        rw [show L.sh + lo * L.sz + j = L.sh + (lo + m) * L.sz + 0 + (j - m * sz) by rw [hsz, Nat.add_mul]; omega]
        exact this
    · by_cases hjm : j < m
      · obtain ⟨y, e1, e2⟩ := h3 j k hjm hk
        have hb : j * sz + k < vs.length := by
          rw [h1]
          have : j * sz + sz ≤ m * sz := by rw [← Nat.succ_mul]; exact Nat.mul_le_mul_right _ hjm
          omega
        exact ⟨y, by rw [List.getElem?_append_left hb]; exact e1, e2⟩
      · have hj' : j = m := by omega
        subst hj'
        have hb : us[k]? = some (us[k]'(by omega)) := List.getElem?_eq_getElem (by omega)
        refine ⟨_, by rw [List.getElem?_append_right (by omega), h1, show j * sz + k - j * sz = k by omega]; exact hb, ?_⟩
        have := g3 k _ hb
        simpa [SO.el] using this

theorem xsrc_sound {P : Program} {A : Amb} {σ : Asg} {st : St} {a : Act} {w : World} (hR : Rel A σ st a w) {sz : Nat} {u8 : Bool} {dh : Nat} {x : SV} {v : Value} {K : Nat → (Nat → List SV) → Prop}
    (hv : rel σ x v) (h : xsrc st sz u8 dh x K) : ∃ m g, K m g ∧ SrcIs P σ w sz m g v := by
  unfold xsrc at h
  split at h
  · refine ⟨0, _, h, ?_⟩
    simp only [rel] at hv
    subst hv
    exact ⟨by simp [Builtin.lenOf], [], by simp, fun n' => by simp [Builtin.firstCells], by simp, fun j k hj => by omega⟩
  · rename_i l
    obtain ⟨hu, rfl, h⟩ := h
    refine ⟨_, _, h, ?_⟩
    simp only [rel] at hv
    subst hv
    refine ⟨by simp [Builtin.lenOf, ba_size], l.map fun b => .int .u8 b.toNat, by simp, fun n' => ?_, by simp [Value.oneCell'], fun j k hj hk => ?_⟩
    · simp only [Builtin.firstCells, ba_extract, Sem.run_pure]
      simp
    · have hk0 : k = 0 := by omega
      subst hk0
      refine ⟨.int .u8 (l.getD j 0).toNat, ?_, by simp [rel]⟩
      simp [hj]
  · rename_i h' lo m
    split at h
    · rename_i ro sz' n f hob
      obtain ⟨rfl, _, hall, h⟩ := h
      obtain ⟨hn, h⟩ := h.out
      refine ⟨_, _, h, ?_⟩
      simp only [rel] at hv
      obtain ⟨ad, cap, rfl, hl, hv⟩ := hv
      by_cases hm0 : m = 0
      · subst hm0
        refine ⟨by simp [Builtin.lenOf], [], by simp, fun n' => ?_, by simp, fun j k hj => by omega⟩
        cases ad <;> simp [Builtin.firstCells, loadCells, loadCellsFrom]
      · rcases hv with hv | ⟨L, hL, rfl, hav⟩
        · omega
        rcases live_cells hR.sat hob rfl with ⟨h0, h1⟩ | ⟨L', c, e, fr, hL', hc⟩
        · rw [h1] at hL; cases hL
        rw [hL'] at hL
        cases hL
        obtain ⟨vs, h1, h2, h3⟩ := row_vals hc lo m hn
        refine ⟨by simp [Builtin.lenOf], vs, h1, fun n' => ?_, fun y hy => ?_, h3⟩
        · have := run_loadCells (P := P) (w := { w with drawn := n' }) (off := L.sh + lo * L.sz + 0) hc.heap vs h2
          rw [h1] at this
          simpa [Builtin.firstCells, addrOf] using this
        · obtain ⟨q, hq⟩ := List.mem_iff_getElem?.1 hy
          have hql : q < m * sz' := by
            rcases Nat.lt_or_ge q vs.length with h | h
            · omega
            · rw [List.getElem?_eq_none h] at hq; cases hq
          have hszp : 0 < sz' := by
            rcases Nat.eq_zero_or_pos sz' with h | h
            · subst h; simp at hql
            · exact h
          have hj : q / sz' < m := (Nat.div_lt_iff_lt_mul hszp).2 hql
          obtain ⟨y', e1, e2⟩ := h3 (q / sz') (q % sz') hj (Nat.mod_lt _ hszp)
          rw [Nat.mul_comm, Nat.div_add_mod] at e1
          rw [hq] at e1
          cases e1
          obtain ⟨ha, hb⟩ := hall (q / sz') hj
          refine okLeaf_one ?_ e2
          exact List.all_eq_true.1 ha _ (List.mem_of_getElem? (list_getD_of (by rw [hb]; exact Nat.mod_lt _ hszp)))
    · exact h.elim
  · rename_i sz' l
    obtain ⟨rfl, hall, h⟩ := h
    refine ⟨_, _, h, ?_⟩
    simp only [rel] at hv
    obtain ⟨ad, cap, rfl, hl, hv⟩ := hv
    rcases hv with hv | ⟨b, off, c, e, fr, rfl, hfz, hrr⟩
    · subst hv
      refine ⟨by simp [Builtin.lenOf], [], by simp, fun n' => ?_, by simp, fun j k hj => by simp at hj⟩
      cases ad <;> simp [Builtin.firstCells, loadCells, loadCellsFrom]
    · have hget : ∀ j k, j < l.length → k < sz' → ∃ y, ((c.toList.drop off).take (l.length * sz'))[j * sz' + k]? = some y ∧ rel σ ((l.getD j []).getD k .u) y := by
        intro j k hj hk
        obtain ⟨g1, g2⟩ := relR_get hrr (j := j) (x := l.getD j []) (by simp [List.getD, List.getElem?_eq_getElem hj])
        obtain ⟨y, e1, e2⟩ := relL_get g2 (j := k) (x := (l.getD j []).getD k .u) (list_getD_of (by rw [g1]; exact hk))
        rw [List.getElem?_take, if_pos hk, List.getElem?_drop] at e1
        have hb : j * sz' + k < l.length * sz' := by
          have : j * sz' + sz' ≤ l.length * sz' := by rw [← Nat.succ_mul]; exact Nat.mul_le_mul_right _ hj
          omega
        exact ⟨y, by rw [List.getElem?_take, if_pos hb]; exact e1, rel_mono (⟨fun _ _ h => (by cases h), fun _ _ h => h⟩ : leA σ.bare σ) e2⟩
      have hlen : ((c.toList.drop off).take (l.length * sz')).length = l.length * sz' := by
        rcases Nat.eq_zero_or_pos (l.length * sz') with h0 | h0
        · rw [h0]; simp
        · have hszp : 0 < sz' := Nat.pos_of_mul_pos_left h0
          have hlp : 0 < l.length := Nat.pos_of_mul_pos_right h0
          obtain ⟨y, e1, _⟩ := hget (l.length - 1) (sz' - 1) (by omega) (by omega)
          obtain ⟨q1, _⟩ := List.getElem?_eq_some_iff.1 e1
          have : (l.length - 1) * sz' + (sz' - 1) = l.length * sz' - 1 := by
            obtain ⟨p, hp⟩ : ∃ p, l.length = p + 1 := ⟨l.length - 1, by omega⟩
            rw [hp, Nat.succ_mul]; simp; omega
          have h9 : ((c.toList.drop off).take (l.length * sz')).length ≤ l.length * sz' := by rw [List.length_take]; omega
          omega
      refine ⟨by simp [Builtin.lenOf], (c.toList.drop off).take (l.length * sz'), hlen, fun n' => ?_, fun y hy => ?_, hget⟩
      · have := run_loadCells (P := P) (w := { w with drawn := n' }) (off := off) (hR.sat.frz _ _ hfz) ((c.toList.drop off).take (l.length * sz')) (fun j v hj => by
          rw [List.getElem?_take] at hj
          by_cases hjl : j < l.length * sz'
          · rw [if_pos hjl, List.getElem?_drop] at hj
            simpa using hj
          · rw [if_neg hjl] at hj; simp at hj)
        rw [hlen] at this
        simpa [Builtin.firstCells] using this
      · obtain ⟨q, hq⟩ := List.mem_iff_getElem?.1 hy
        have hql : q < l.length * sz' := by
          rw [← hlen]
          exact (List.getElem?_eq_some_iff.1 hq).1
        have hszp : 0 < sz' := Nat.pos_of_mul_pos_left (Nat.lt_of_le_of_lt (Nat.zero_le _) hql)
        have hj : q / sz' < l.length := (Nat.div_lt_iff_lt_mul hszp).2 hql
        obtain ⟨y', e1, e2⟩ := hget (q / sz') (q % sz') hj (Nat.mod_lt _ hszp)
        rw [Nat.mul_comm (q / sz'), Nat.div_add_mod] at e1
        rw [hq] at e1
        cases e1
        obtain ⟨g1, _⟩ := relR_get hrr (j := q / sz') (x := l.getD (q / sz') []) (by simp [List.getD, List.getElem?_eq_getElem hj])
        refine okLeaf_one ?_ e2
        refine List.all_eq_true.1 (hall (l.getD (q / sz') []) ?_) _ (List.mem_of_getElem? (list_getD_of (by rw [g1]; exact Nat.mod_lt _ hszp)))
        simp only [List.getD_eq_getElem?_getD, List.getElem?_eq_getElem hj, Option.getD_some]
        exact List.getElem_mem hj
  · exact h.elim

theorem catF_get (n : Nat) (f g : Nat → List SV) (j k : Nat) : (catF n f g j).getD k .u = if j < n then (f j).getD k .u else (g (j - n)).getD k .u := by
  unfold catF; split <;> rfl

theorem growCap {need cap bytes : Nat} (h : cap < need) (hb : need * bytes ≤ 140737488355328) : ¬ (Builtin.nextslicecap need cap * bytes > 2 ^ 48) := by
  have := growslice_fits h hb
  omega

/-- The old objects at handles stand where one is taken out of use. -/
theorem Rel.drop {A : Amb} {σ : Asg} {st : St} {a : Act} {w : World} (hR : Rel A σ st a w) (h : Nat) : Rel A σ (st.setObj h none) a w := by
  by_cases hlt : h < st.ctx.length
  · have hat : ∀ x, Ctx.at (st.ctx.set h none) x = if x = h then none else st.ctx.at x := fun x => at_set _ _ _ _ hlt
    refine ⟨hR.defers, hR.size, hR.env, ⟨fun h1 o1 e => ?_, fun h1 h2 o1 o2 L1 L2 hne e1 e2 r s1 s2 => ?_, fun h1 hh => hR.sat.beyond h1 (by simpa [St.setObj] using hh), hR.sat.inHeap, hR.sat.frz, fun h1 o1 M e r s => ?_⟩, hR.fr, fun h1 o1 M e r s => ?_, hR.base, by simpa [St.setObj] using hR.klen⟩
    · simp only [St.setObj, hat] at e
      split at e
      · cases e
      · exact hR.sat.obj h1 o1 e
    · simp only [St.setObj, hat] at e1 e2
      split at e1
      · cases e1
      · split at e2
        · cases e2
        · exact hR.sat.apart h1 h2 o1 o2 L1 L2 hne e1 e2 r s1 s2
    · simp only [St.setObj, hat] at e
      split at e
      · cases e
      · exact hR.sat.frzA h1 o1 M e r s
    · simp only [St.setObj, hat] at e
      split at e
      · cases e
      · exact hR.own h1 o1 M e r s
  · have : st.setObj h none = st := by
      unfold St.setObj
      rw [List.set_eq_of_length_le (by omega)]
    rw [this]; exact hR

/-- A handle for nothing: an empty row that lies nowhere. -/
theorem Rel.ghost {A : Amb} {σ : Asg} {st : St} {a : Act} {w : World} (hR : Rel A σ st a w) (sz : Nat) (f : Nat → List SV) : Rel A σ (st.addObj (.row false sz 0 f)) a w := by
  have hq : σ st.ctx.length = none := hR.sat.beyond _ (Nat.le_refl _)
  refine ⟨hR.defers, hR.size, hR.env, ⟨fun h1 o1 e => ?_, fun h1 h2 o1 o2 L1 L2 hne e1 e2 r s1 s2 => ?_, fun h1 hh => hR.sat.beyond h1 (by simp [St.addObj] at hh; omega), hR.sat.inHeap, hR.sat.frz, fun h1 o1 M e r s => ?_⟩, hR.fr, fun h1 o1 M e r s => ?_, hR.base, by simp [St.addObj]; have := hR.klen; omega⟩
  · simp only [St.addObj, at_app] at e
    split at e
    · rename_i hh
      cases e
      unfold objSat
      exact .inl ⟨rfl, by rw [hh]; exact hq⟩
    · exact hR.sat.obj h1 o1 e
  · simp only [St.addObj, at_app] at e1 e2
    split at e1
    · rename_i hh; rw [hh, hq] at s1; cases s1
    · split at e2
      · rename_i hh; rw [hh, hq] at s2; cases s2
      · exact hR.sat.apart h1 h2 o1 o2 L1 L2 hne e1 e2 r s1 s2
  · simp only [St.addObj, at_app] at e
    split at e
    · rename_i hh; rw [hh, hq] at s; cases s
    · exact hR.sat.frzA h1 o1 M e r s
  · simp only [St.addObj, at_app] at e
    split at e
    · rename_i hh; rw [hh, hq] at s; cases s
    · exact hR.own h1 o1 M e r s

end Go.Vg
